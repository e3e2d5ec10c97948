/- An evaluator of closed runs, part 1: what its operations do: no statement of the seat is proved here; no condition. -/
import Derived.Laws.RangeString
import Derived.Test.YtjilbigenfhieaaGreatDoorAb
set_option linter.unusedVariables false
set_option linter.unusedSimpArgs false
set_option linter.all false
namespace Go.Ev
open Go Go.Ab
noncomputable section

/-- A cell's value: a plain one; a pointer into a block that has a number of ours; a slice; a map; a closure; an interface value; something unknown. -/
inductive SC where
  | v (x : Value)
  | p (id off : Nat)
  | s (id off len k : Nat) (opn : Bool)
  | m (id : Nat)
  | f (fn : Fn) (first captured : List SC)
  | i (t : TypeId) (x : SC)
  | e

inductive SV where
  | one (c : SC)
  | agg (cs : List SC)
  | tup (l : List SV)
  | u (k : Nat)
  | any

/-- A tree of things by number. -/
inductive Tr (α : Type) where
  | leaf
  | node (l : Tr α) (x : Option α) (r : Tr α)

def Tr.get {α : Type} (t : Tr α) : Nat → Option α :=
  Tr.rec (motive := fun _ => Nat → Option α) (fun _ => none)
    (fun _ x _ gl gr k => Nat.rec (motive := fun _ => Option α) x (fun k _ => Bool.rec (motive := fun _ => Option α) (gr (Nat.div k 2)) (gl (Nat.div k 2)) (Nat.beq (Nat.mod k 2) 0)) k) t

def Tr.set {α : Type} (n : Nat) (t : Tr α) (k : Nat) (v : Option α) : Tr α :=
  Nat.rec (motive := fun _ => Tr α → Nat → Tr α) (fun _ _ => .leaf)
    (fun _ ih t k => Nat.rec (motive := fun _ => Tr α) (Tr.rec (motive := fun _ => Tr α) (.node .leaf v .leaf) (fun l _ r _ _ => .node l v r) t)
      (fun k _ => Bool.rec (motive := fun _ => Tr α) (Tr.rec (motive := fun _ => Tr α) (.node .leaf none (ih .leaf (Nat.div k 2))) (fun l x r _ _ => .node l x (ih r (Nat.div k 2))) t)
        (Tr.rec (motive := fun _ => Tr α) (.node (ih .leaf (Nat.div k 2)) none .leaf) (fun l x r _ _ => .node (ih l (Nat.div k 2)) x r) t) (Nat.beq (Nat.mod k 2) 0)) k) n t k

/-- A block: cells (open: behind them lie more, unknown ones), or a map with nothing in it. -/
inductive SO where
  | cells (opn : Bool) (cs : List SC) (t : TypeId)
  | map0 (clock : Nat)
  | str (s : ByteArray) (pos : Nat)
  | mapI (m clock : Nat)

structure St where
  H : Tr SO
  nx : Nat

abbrev Get := Nat → Option SV

def cst : Value → Option SV
  | .agg cs => match cs.toList.all Value.oneCell' with
    | true => some (.agg (cs.toList.map .v))
    | false => none
  | v => match v.oneCell' with
    | true => some (.one (.v v))
    | false => none

def opd (g : Get) : Operand → Option SV
  | .tmp t => g t
  | .const v => cst v
  | .global _ => none
  | .func f => some (.one (.f (.func f) [] []))

def kn : IntKind → Nat
  | .i8 => 0 | .i16 => 1 | .i32 => 2 | .i64 => 3 | .u8 => 4 | .u16 => 5 | .u32 => 6 | .u64 => 7
def kuM : IntKind → Option Nat
  | .u8 => some 256 | .u16 => some 65536 | .u32 => some 4294967296 | .u64 => some 18446744073709551616 | _ => none
def wrapF (k : IntKind) (n : Int) : Int :=
  match kuM k, n with
  | some M, .ofNat m => .ofNat (m % M)
  | some M, .negSucc m => .ofNat (M - 1 - m % M)
  | none, n => k.wrap n
def bitsF (op : BinOp) (k : IntKind) (a b : Int) : Int :=
  match kuM k, a, b with
  | some M, .ofNat x, .ofNat y => match op with
    | .and => .ofNat (Nat.land (x % M) (y % M))
    | .or => .ofNat (Nat.lor (x % M) (y % M))
    | .xor => .ofNat (Nat.xor (x % M) (y % M))
    | op => bits op k (.ofNat x) (.ofNat y)
  | _, a, b => bits op k a b
def ltF : Int → Int → Bool
  | .ofNat a, .ofNat b => Nat.blt a b
  | .ofNat _, .negSucc _ => false
  | .negSucc _, .ofNat _ => true
  | .negSucc a, .negSucc b => Nat.blt b a
def eqF : Int → Int → Bool
  | .ofNat a, .ofNat b => Nat.beq a b
  | .ofNat _, .negSucc _ => false
  | .negSucc _, .ofNat _ => false
  | .negSucc a, .negSucc b => Nat.beq a b

def ri (k : IntKind) (n : Int) : Option SV := some (.one (.v (.int k n)))
def rb (b : Bool) : Option SV := some (.one (.v (.bool b)))

def shlE (k : IntKind) (a : Int) : Int → Option SV
  | .ofNat y => ri k (wrapF k (a * .ofNat (2 ^ (min y k.bits))))
  | _ => none
def shrN (k : IntKind) (x : Nat) : Int → Option SV
  | .ofNat y => ri k (.ofNat (x / 2 ^ (min y k.bits)))
  | _ => none
def shrZ (k : IntKind) (a : Int) : Int → Option SV
  | .ofNat y => ri k (a.fdiv (2 ^ (min y k.bits)))
  | _ => none
def shrE (k : IntKind) (a b : Int) : Option SV := match a with
  | .ofNat x => shrN k x b
  | a => shrZ k a b
def quoE (k : IntKind) (a b : Int) : Option SV := match eqF b 0 with
  | true => none
  | false => ri k (wrapF k (a.tdiv b))
def remE (k : IntKind) (a b : Int) : Option SV := match eqF b 0 with
  | true => none
  | false => ri k (a.tmod b)
def arithE (op : BinOp) (k : IntKind) (a b : Int) : Option SV := match op with
  | .add => ri k (wrapF k (a + b))
  | .sub => ri k (wrapF k (a - b))
  | .mul => ri k (wrapF k (a * b))
  | .quo => quoE k a b
  | .rem => remE k a b
  | .and => ri k (bitsF .and k a b)
  | .or => ri k (bitsF .or k a b)
  | .xor => ri k (bitsF .xor k a b)
  | .andNot => ri k (bitsF .andNot k a b)
  | .lss => rb (ltF a b)
  | .gtr => rb (ltF b a)
  | .leq => rb (!ltF b a)
  | .geq => rb (!ltF a b)
  | .eql => rb (eqF a b)
  | .neq => rb (!eqF a b)
  | _ => none
def isSh : BinOp → Nat
  | .shl => 1
  | .shr => 2
  | _ => 0
def intE (op : BinOp) (k : IntKind) (a : Int) (j : IntKind) (b : Int) : Option SV :=
  match isSh op with
  | 1 => shlE k a b
  | 2 => shrE k a b
  | _ => match Nat.beq (kn k) (kn j) with
    | false => none
    | true => arithE op k a b

def isEq : BinOp → Option Bool
  | .eql => some true
  | .neq => some false
  | _ => none
def beqB : Bool → Bool → Bool
  | true, b => b
  | false, b => !b

def byBool (op : BinOp) (r : Bool) : Option SV := match isEq op with
  | some true => rb r
  | some false => rb (!r)
  | none => none

/-- A run of the model's that looks at nothing but the program. -/
def semPure {α : Type} (P : Program) : Nat → Sem α → Option α
  | 0, _ => none
  | n + 1, s => match s with
    | .pure a => some a
    | .program k => semPure P n (k P)
    | _ => none
def closeds : List SC → Option (List Value)
  | [] => some []
  | .v x :: r => match closeds r with
    | some l => some (x :: l)
    | none => none
  | _ => none
def closed : SV → Option Value
  | .one (.v x) => some x
  | .agg cs => match closeds cs with
    | some l => some (.agg l.toArray)
    | none => none
  | _ => none
def isPtrT (P : Program) (t : TypeId) : Bool := match P.underlying t with
  | some (.pointer _) => true
  | _ => false
def isSlT (P : Program) (t : TypeId) : Bool := match P.underlying t with
  | some (.slice _) => true
  | _ => false
def binC (P : Program) (op : BinOp) (t : TypeId) (x y : Operand) (a b : SV) : Option SV := match closed a with
  | some u => match closed b with
    | some v => match semPure P 1000 (do eqGuard op t x y u v; binOp op t u v) with
      | some r => cst r
      | none => none
    | none => none
  | none => none
def vsNilS (P : Program) (op : BinOp) (t : TypeId) : SV → Option SV
  | .one (.v (.slice none 0 0)) => match isSlT P t with
    | true => byBool op false
    | false => none
  | _ => none
def vsNilP (P : Program) (op : BinOp) (t : TypeId) : SV → Option SV
  | .one (.v (.pointer none)) => match isPtrT P t with
    | true => byBool op false
    | false => none
  | _ => none
def binI (op : BinOp) (k : IntKind) (i : Int) : SV → Option SV
  | .one (.v (.int j m)) => intE op k i j m
  | _ => none
def binE (P : Program) (op : BinOp) (t : TypeId) (x y : Operand) (a b : SV) : Option SV :=
  match a with
  | .one (.v (.int k i)) => binI op k i b
  | .one (.p _ _) => vsNilP P op t b
  | .one (.s _ _ _ _ _) => vsNilS P op t b
  | .one .e => vsNilS P op t b
  | a => binC P op t x y a b

def unE (op : UnOp) (a : SV) : Option SV :=
  match op, a with
  | .not, .one (.v (.bool b)) => rb (!b)
  | .neg, .one (.v (.int k b)) => ri k (wrapF k (0 - b))
  | .xor, .one (.v (.int k b)) => ri k (bitsF .xor k (if k.signed then -1 else k.max) b)
  | _, _ => none

def isAggT (P : Program) (t : TypeId) : Option Bool := match P.underlying t with
  | some d => some (isAggD d)
  | none => none
def zeroT (P : Program) (t : TypeId) : Option (Nat × List Value) := match P.info? t with
  | some i => match i.zero with
    | some z => match z.cells.toList.all Value.oneCell' with
      | true => some (i.size, z.cells.toList)
      | false => none
    | none => none
  | none => none
def sizeT (P : Program) (t : TypeId) : Option Nat := match P.info? t with
  | some i => some i.size
  | none => none

def cellsOf : SV → Option (List SC)
  | .one c => some [c]
  | .agg cs => some cs
  | .tup _ => none
  | .u _ => none
  | .any => none

def setAt : List SC → Nat → List SC → List SC
  | cs, _, [] => cs
  | [], _, _ :: _ => []
  | _ :: cs, 0, m :: ms => m :: setAt cs 0 ms
  | c :: cs, n + 1, ms => c :: setAt cs n ms

def fieldT (P : Program) (t : TypeId) (k : Nat) : Option (Nat × Nat) := match P.underlying t with
  | some (.struct fs) => match fs[k]? with
    | some fd => match sizeT P fd.type with
      | some s => some (fd.offset, s)
      | none => none
    | none => none
  | _ => none
def allSized (P : Program) : List Field → Bool
  | [] => true
  | f :: r => match sizeT P f.type with
    | some _ => allSized P r
    | none => false
/-- Where a part lies: (cell, cells). -/
def partAt (P : Program) (t : TypeId) (k : Nat) : Option (Nat × Nat) := match P.underlying t with
  | some (.struct fs) => match fs[k]? with
    | some fd => match sizeT P fd.type with
      | some s => some (fd.offset, s)
      | none => none
    | none => none
  | some (.array _ e) => match sizeT P e with
    | some s => some (k * s, s)
    | none => none
  | _ => none
/-- Are all parts' sizes told? -/
def partsT (P : Program) (t : TypeId) : Bool := match P.underlying t with
  | some (.struct fs) => allSized P fs.toList
  | some (.array _ e) => match sizeT P e with
    | some _ => true
    | none => false
  | _ => false

def fillG (part : Nat → Option (Nat × Nat)) (g : Get) : List (Nat × Operand) → List SC → Option (List SC)
  | [], cs => some cs
  | (k, x) :: r, cs => match part k with
    | some (off, s) => match opd g x with
      | some sv => match cellsOf sv with
        | some ms => match Nat.beq ms.length s && Nat.ble (off + s) cs.length with
          | true => fillG part g r (setAt cs off ms)
          | false => none
        | none => none
      | none => none
    | none => none

def rep {α : Type} : Nat → List α → List α
  | 0, _ => []
  | n + 1, l => l ++ rep n l

def opds (g : Get) : List Operand → Option (List SV)
  | [] => some []
  | x :: r => match opd g x with
    | some a => match opds g r with
      | some l => some (a :: l)
      | none => none
    | none => none
def ones : List SV → Option (List SC)
  | [] => some []
  | .one c :: r => match ones r with
    | some l => some (c :: l)
    | none => none
  | _ => none

def put (st : St) (o : SO) : St := ⟨Tr.set 40 st.H st.nx (some o), st.nx + 1⟩

abbrev Res := Option (SV × St)
def pur (st : St) : Option SV → Res
  | some v => some (v, st)
  | none => none

/-- The cells that a slice shows. -/
def sliceCells (st : St) (size : Nat) : SV → Option (Nat × List SC)
  | .one (.v (.slice none 0 0)) => some (0, [])
  | .one .e => some (0, [])
  | .one (.s id off len _ _) => match len with
    | 0 => some (0, [])
    | len + 1 => match st.H.get id with
      | some (.cells _ cs _) => match Nat.ble (off + (len + 1) * size) cs.length with
        | true => some (len + 1, (cs.drop off).take ((len + 1) * size))
        | false => none
      | _ => none
  | _ => none
def infoT (P : Program) (t : TypeId) : Option (Nat × Nat) := match P.info? t with
  | some i => match i.zero with
    | some z => match Nat.beq z.cells.size i.size with
      | true => some (i.size, i.bytes)
      | false => none
    | none => none
  | none => none
def fits (len by_ : Nat) : Bool := Nat.ble len 4611686018427387904 && Nat.ble (len * by_) 140737488355328
/-- Behind an append that makes a new block. -/
def appNew (st : St) (e : TypeId) (len : Nat) (cs : List SC) : Res := some (.one (.s st.nx 0 len 0 true), put st (.cells true cs e))
def appOpen (st : St) (e : TypeId) (size id len n : Nat) (ys : List SC) : Res := match st.H.get id with
  | some (.cells true cs t) => match Nat.beq t e with
    | true => match Nat.beq cs.length (len * size) with
      | true => appNew ⟨Tr.set 40 st.H id none, st.nx⟩ e (len + n) (cs ++ ys)
      | false => none
    | false => none
  | _ => none
def appOnto (st : St) (e : TypeId) (size by_ : Nat) (x : SV) (n : Nat) (ys : List SC) : Res := match x with
  | .one (.v (.slice none 0 0)) => match fits n by_ with
    | true => appNew st e n ys
    | false => none
  | .one (.s id off len k opn) => match fits (len + n) by_ with
    | false => none
    | true => match opn with
      | false => match Nat.beq len k with
        | true => match sliceCells st size x with
          | some (_, xs) => appNew st e (len + n) (xs ++ ys)
          | none => none
        | false => none
      | true => match off with
        | 0 => match k with
          | 0 => appOpen st e size id len n ys
          | _ => none
        | _ => none
  | _ => none
def isSl : SV → Bool
  | .one (.v (.slice none 0 0)) => true
  | .one .e => true
  | .one (.s _ _ _ _ _) => true
  | _ => false
def appE (P : Program) (st : St) (e : TypeId) (x y : SV) : Res :=
  match infoT P e with
  | none => none
  | some (size, by_) => match sliceCells st size y with
    | none => none
    | some (n, ys) => match n with
      | 0 => match isSl x with
        | true => some (x, st)
        | false => none
      | n + 1 => appOnto st e size by_ x (n + 1) ys

def idx : SV → Option Nat
  | .one (.v (.int _ (.ofNat i))) => some i
  | _ => none
def optIdx (g : Get) : Option Operand → Nat → Option Nat
  | none, d => some d
  | some x, _ => match opd g x with
    | some v => idx v
    | none => none

/-- The three bounds, where they fit. -/
def bounds (g : Get) (len cap : Nat) (lo hi mx : Option Operand) : Option (Nat × Nat × Nat) := match optIdx g mx cap with
  | some m => match mx.isSome && hi.isNone with
    | true => none
    | false => match optIdx g hi len with
      | some h => match optIdx g lo 0 with
        | some l => match Nat.ble l h && Nat.ble h m && Nat.ble m cap with
          | true => some (l, h, m)
          | false => none
        | none => none
      | none => none
  | none => none
def slK (size id off : Nat) : Option (Nat × Nat × Nat) → Option SV
  | some (l, h, m) => some (.one (.s id (match Nat.beq m l with | true => off | false => off + l * size) (h - l) (m - l) false))
  | none => none
def slO (size id off len k : Nat) : Option (Nat × Nat × Nat) → Option SV
  | some (l, h, _) => match Nat.blt l len with
    | true => some (.one (.s id (off + l * size) (h - l) (k + l) true))
    | false => some (.one .e)
  | none => none
def slN : Option (Nat × Nat × Nat) → Option SV
  | some _ => some (.one (.v (.slice none 0 0)))
  | none => none
def slE (P : Program) (g : Get) (t : TypeId) (x : SV) (lo hi mx : Option Operand) : Option SV :=
  match P.underlying t with
  | some (.slice e) => match sizeT P e with
    | none => none
    | some size => match x with
      | .one (.s id off len k opn) => match opn with
        | true => match mx with
          | some _ => none
          | none => slO size id off len k (bounds g len len lo hi none)
        | false => slK size id off (bounds g len k lo hi mx)
      | .one (.v (.slice none 0 0)) => slN (bounds g 0 0 lo hi mx)
      | _ => none
  | some (.array n e) => match sizeT P e with
    | none => none
    | some size => match x with
      | .one (.p id off) => slK size id off (bounds g n n lo hi mx)
      | _ => none
  | _ => none

def lenE (P : Program) (_st : St) (ats : List TypeId) (x : SV) : Option SV := match ats with
  | [t] => match P.underlying t with
    | some (.slice _) => match x with
      | .one (.s _ _ len _ _) => ri .i64 (.ofNat len)
      | .one .e => ri .i64 (.ofNat 0)
      | .one (.v (.slice none 0 0)) => ri .i64 (.ofNat 0)
      | _ => none
    | some .string => match x with
      | .one (.v (.string s)) => ri .i64 (.ofNat s.size)
      | _ => none
    | _ => none
  | _ => none

def appB (P : Program) (st : St) (ats : List TypeId) (x y : SV) : Res := match ats with
  | [t, t'] => match Nat.beq t t' with
    | true => match P.underlying t with
      | some (.slice e) => appE P st e x y
      | _ => none
    | false => none
  | _ => none
def minE (mx : Bool) (a b : SV) : Option SV := match a with
  | .one (.v (.int k x)) => match b with
    | .one (.v (.int j y)) => match Nat.beq (kn k) (kn j) with
      | true => match mx with
        | true => ri k (match ltF x y with | true => y | false => x)
        | false => ri k (match ltF x y with | true => x | false => y)
      | false => none
    | _ => none
  | _ => none
def two (as : List SV) : Option (SV × SV) := match as with
  | [x, y] => some (x, y)
  | _ => none
def builtE (P : Program) (st : St) (b : Builtin) (ats : Array TypeId) (as : List SV) : Res :=
  match b with
  | .len => match as with
    | [x] => pur st (lenE P st ats.toList x)
    | _ => none
  | .append => match two as with
    | some (x, y) => appB P st ats.toList x y
    | none => none
  | .min => match two as with
    | some (x, y) => pur st (minE false x y)
    | none => none
  | .max => match two as with
    | some (x, y) => pur st (minE true x y)
    | none => none
  | _ => none

def pickE (g : Get) (st : St) (c a b : Operand) : Res := match opd g c with
  | some (.one (.v (.bool x))) => match x with
    | true => pur st (opd g a)
    | false => pur st (opd g b)
  | _ => none
def binOpE (P : Program) (g : Get) (st : St) (op : BinOp) (t : TypeId) (x y : Operand) : Res := match opd g x with
  | some a => match opd g y with
    | some b => pur st (binE P op t x y a b)
    | none => none
  | none => none
def unOpE (g : Get) (st : St) (op : UnOp) (x : Operand) : Res := match opd g x with
  | some a => pur st (unE op a)
  | none => none
def convE (P : Program) (g : Get) (st : St) (s t : TypeId) (x : Operand) : Res := match opd g x with
  | some (.one (.v (.int _ n))) => match P.underlying t with
    | some (.int k) => match P.underlying s with
      | some _ => pur st (ri k (wrapF k n))
      | none => none
    | _ => none
  | _ => none
def allocE (P : Program) (st : St) (t : TypeId) : Res := match zeroT P t with
  | some (_, z) => some (.one (.p st.nx 0), put st (.cells false (z.map .v) t))
  | none => none
def boxE (g : Get) (st : St) (t : TypeId) (x : Operand) : Res := match opd g x with
  | some v => match cellsOf v with
    | some cs => some (.one (.p st.nx 0), put st (.cells false cs t))
    | none => none
  | none => none
def buildE (P : Program) (g : Get) (st : St) (t : TypeId) (parts : List (Nat × Operand)) : Res := match zeroT P t with
  | some (_, z) => match partsT P t with
    | true => match fillG (partAt P t) g parts (z.map .v) with
      | some cs => some (.agg cs, st)
      | none => none
    | false => none
  | none => none
def buildSE (P : Program) (g : Get) (st : St) (t : TypeId) (len : Nat) (parts : List (Nat × Operand)) : Res := match P.underlying t with
  | some (.slice e) => match zeroT P e with
    | some (size, z) => match Nat.beq z.length size && Nat.ble (len * size) 16777216 with
      | true => match fillG (fun k => some (k * size, size)) g parts (rep len (z.map .v)) with
        | some cs => some (.one (.s st.nx 0 len len false), put st (.cells false cs e))
        | none => none
      | false => none
    | none => none
  | _ => none
/-- A value of a type, out of cells from a place on. -/
def takeE (P : Program) (t : TypeId) (cs : List SC) (off : Nat) : Option SV := match isAggT P t with
  | some false => match cs[off]? with
    | some c => some (.one c)
    | none => none
  | some true => match sizeT P t with
    | some s => match (cs.drop off).take s with
      | l => match Nat.beq l.length s with
        | true => some (.agg l)
        | false => none
    | none => none
  | none => none
def loadE (P : Program) (g : Get) (st : St) (t : TypeId) (x : Operand) : Res := match opd g x with
  | some (.one (.p id off)) => match st.H.get id with
    | some (.cells _ cs _) => pur st (takeE P t cs off)
    | _ => none
  | _ => none
def stE (st : St) (id off : Nat) (ms : List SC) : Option St := match st.H.get id with
  | some (.cells b cs t) => match Nat.ble (off + ms.length) cs.length with
    | true => some ⟨Tr.set 40 st.H id (some (.cells b (setAt cs off ms) t)), st.nx⟩
    | false => none
  | _ => none
def storeE (P : Program) (g : Get) (st : St) (t : TypeId) (x y : Operand) : Option St := match opd g x with
  | some (.one (.p id off)) => match opd g y with
    | some v => match cellsOf v with
      | some ms => match sizeT P t with
        | some s => match Nat.beq ms.length s with
          | true => stE st id off ms
          | false => none
        | none => none
      | none => none
    | none => none
  | _ => none
def nilE (g : Get) (st : St) (x : Operand) : Res := match opd g x with
  | some (.one (.p id off)) => some (.one (.p id off), st)
  | _ => none
def fieldAE (P : Program) (g : Get) (st : St) (s : TypeId) (x : Operand) (f : Nat) : Res := match opd g x with
  | some (.one (.p id off)) => match fieldT P s f with
    | some (o, m) => match m with
      | 0 => none
      | _ + 1 => some (.one (.p id (off + o)), st)
    | none => none
  | _ => none
def fieldE (P : Program) (g : Get) (st : St) (s : TypeId) (x : Operand) (f : Nat) : Res := match opd g x with
  | some (.agg cs) => match P.underlying s with
    | some (.struct fs) => match fs[f]? with
      | some fd => pur st (takeE P fd.type cs fd.offset)
      | none => none
    | _ => none
  | _ => none
def idxAt (P : Program) (st : St) (t : TypeId) (x : SV) (i : Nat) : Res := match P.underlying t with
  | some (.slice e) => match sizeT P e with
    | some s => match x with
      | .one (.s id off len _ _) => match Nat.blt i len with
        | true => some (.one (.p id (off + i * s)), st)
        | false => none
      | _ => none
    | none => none
  | some (.array len e) => match sizeT P e with
    | some s => match x with
      | .one (.p id off) => match Nat.blt i len with
        | true => some (.one (.p id (off + i * s)), st)
        | false => none
      | _ => none
    | none => none
  | _ => none
def indexAE (P : Program) (g : Get) (st : St) (t : TypeId) (x y : Operand) : Res := match opd g y with
  | some yv => match idx yv with
    | some i => match opd g x with
      | some xv => idxAt P st t xv i
      | none => none
    | none => none
  | none => none
def idxVal (P : Program) (t : TypeId) (x : SV) (i : Nat) : Option SV := match x with
  | .one (.v (.string s)) => match P.underlying t with
    | some .string => match s.data.toList[i]? with
      | some b => ri .u8 (.ofNat b.toNat)
      | none => none
    | _ => none
  | .agg cs => match P.underlying t with
    | some (.array len e) => match Nat.blt i len with
      | true => match sizeT P e with
        | some s => takeE P e cs (i * s)
        | none => none
      | false => none
    | _ => none
  | _ => none
def indexE (P : Program) (g : Get) (st : St) (t : TypeId) (x y : Operand) : Res := match opd g y with
  | some yv => match idx yv with
    | some i => match opd g x with
      | some xv => pur st (idxVal P t xv i)
      | none => none
    | none => none
  | none => none
def extractE (g : Get) (st : St) (x : Operand) (i : Nat) : Res := match opd g x with
  | some (.tup l) => pur st l[i]?
  | _ => none
def sliceE (P : Program) (g : Get) (st : St) (t : TypeId) (x : Operand) (lo hi mx : Option Operand) : Res := match opd g x with
  | some v => pur st (slE P g t v lo hi mx)
  | none => none
def leaf : SC → Bool
  | .f .. | .i .. => false
  | _ => true
def makeFuncE (g : Get) (st : St) (fn : Fn) (first captured : List Operand) : Res := match opds g first with
  | some a => match opds g captured with
    | some b => match ones a with
      | some a => match ones b with
        | some b => match a.all leaf && b.all leaf with
          | true => some (.one (.f fn a b), st)
          | false => none
        | none => none
      | none => none
    | none => none
  | none => none
def makeMapE (st : St) (r : Option Operand) : Res := match r with
  | none => some (.one (.m st.nx), put st (.map0 0))
  | some _ => none
def lookE (P : Program) (st : St) (t : TypeId) (kv : Value) (ok : Bool) : Res := match P.underlying t with
  | some (.map key e) => match semPure P 1000 (Instr.checkKey true 10000 key kv) with
    | some _ => match P.info? e with
      | some i => match i.zero with
        | some z => match cst z with
          | some sv => match P.underlying key with
            | some _ => match ok with
              | true => some (.tup [sv, .one (.v (.bool false))], st)
              | false => some (sv, st)
            | none => none
          | none => none
        | none => none
      | none => none
    | none => none
  | _ => none
def lookupE (P : Program) (g : Get) (st : St) (t : TypeId) (x y : Operand) (ok : Bool) : Res := match opd g x with
  | some (.one (.m id)) => match st.H.get id with
    | some (.map0 _) => match opd g y with
      | some yv => match closed yv with
        | some kv => lookE P st t kv ok
        | none => none
      | none => none
    | _ => none
  | _ => none
def rangeE (P : Program) (g : Get) (st : St) (t : TypeId) (x : Operand) : Res := match opd g x with
  | some (.one (.v (.string s))) => match P.underlying t with
    | some .string => some (.one (.p st.nx 0), put st (.str s 0))
    | _ => none
  | some (.one (.m m)) => match P.underlying t with
    | some (.map _ _) => match st.H.get m with
      | some (.map0 c) => some (.one (.p st.nx 0), put st (.mapI m c))
      | _ => none
    | _ => none
  | _ => none
def nextAt (st : St) (id : Nat) (s : ByteArray) (pos : Nat) : Res := match s.data.toList[pos]? with
  | none => some (.tup [.one (.v (.bool false))], st)
  | some b => match Nat.blt b.toNat 128 with
    | true => some (.tup [.one (.v (.bool true)), .one (.v (.int .i64 (.ofNat pos))), .one (.v (.int .i32 (.ofNat b.toNat)))], ⟨Tr.set 40 st.H id (some (.str s (pos + 1))), st.nx⟩)
    | false => none
def nextE (g : Get) (st : St) (x : Operand) (isS : Bool) : Res := match isS with
  | false => match opd g x with
    | some (.one (.p id off)) => match off with
      | 0 => match st.H.get id with
        | some (.mapI m _) => match st.H.get m with
          | some (.map0 _) => some (.tup [.one (.v (.bool false))], st)
          | _ => none
        | _ => none
      | _ => none
    | _ => none
  | true => match opd g x with
    | some (.one (.p id off)) => match off with
      | 0 => match st.H.get id with
        | some (.str s pos) => nextAt st id s pos
        | _ => none
      | _ => none
    | _ => none
def callOE (P : Program) (call : FuncId → List SV → St → Res) (g : Get) (st : St) (c : Call) : Res := match opds g c.args.toList with
  | some as => match c.callee with
    | .builtin b => builtE P st b c.argTypes as
    | .value f => match opd g f with
      | some (.one (.f (.func f) a b)) => call f (a.map .one ++ as ++ b.map .one) st
      | _ => none
    | _ => none
  | none => none

def opE (P : Program) (call : FuncId → List SV → St → Res) (g : Get) (st : St) (o : Op) : Res :=
  match o with
  | .move x => pur st (opd g x)
  | .assign x => pur st (opd g x)
  | .pick c a b => pickE g st c a b
  | .binOp op t x y _ => binOpE P g st op t x y
  | .unOp op _ x => unOpE g st op x
  | .convert s t x => convE P g st s t x
  | .alloc t => allocE P st t
  | .box t x => boxE g st t x
  | .build t parts => buildE P g st t parts.toList
  | .buildSlice t len parts => buildSE P g st t len parts.toList
  | .load t x => loadE P g st t x
  | .nilCheck x => nilE g st x
  | .fieldAddr s x f => fieldAE P g st s x f
  | .field s x f => fieldE P g st s x f
  | .indexAddr t x y => indexAE P g st t x y
  | .index t x y => indexE P g st t x y
  | .extract x i => extractE g st x i
  | .slice t x lo hi mx => sliceE P g st t x lo hi mx
  | .makeFunc fn first captured => makeFuncE g st fn first.toList captured.toList
  | .makeMap _ r => makeMapE st r
  | .lookup t x y ok => lookupE P g st t x y ok
  | .range t x => rangeE P g st t x
  | .next x b => nextE g st x b
  | .call c => callOE P call g st c
  | _ => none

/-- An operation without a value. -/
def opN (P : Program) (call : FuncId → List SV → St → Res) (g : Get) (st : St) (o : Op) : Option St :=
  match o with
  | .store t x y => storeE P g st t x y
  | .call c => match c.callee with
    | .builtin _ => none
    | _ => match callOE P call g st c with
      | some (_, st) => some st
      | none => none
  | _ => none

inductive Ex where
  | normal | exit (id : Nat) | ret

structure Cf where
  fr : Tr SV
  st : St

/-- One operation, and where its value goes. -/
def stepE (P : Program) (call : FuncId → List SV → St → Res) (n : Nat) (o : Oper) (c : Cf) : Option Cf := match o.dst with
  | some d => match Nat.blt d n with
    | true => match opE P call c.fr.get c.st o.op with
      | some (v, st) => some ⟨Tr.set 40 c.fr d (some v), st⟩
      | none => none
    | false => none
  | none => match opN P call c.fr.get c.st o.op with
    | some st => some ⟨c.fr, st⟩
    | none => none

/-- What a guard says: done, or passed over. -/
def guardE (all : List Oper) (fr : Tr SV) (j : Nat) (b : Bool) : Option Bool := match all[j]? with
  | some oj => match oj.dst with
    | some t => match fr.get t with
      | some (.one (.v (.bool x))) => some (beqB x b)
      | _ => none
    | none => none
  | none => none

def opsE (P : Program) (call : FuncId → List SV → St → Res) (n : Nat) (all : List Oper) : List Oper → Cf → Option Cf
  | [], c => some c
  | o :: r, c => match o.guard with
    | none => match stepE P call n o c with
      | some c => opsE P call n all r c
      | none => none
    | some (j, b) => match guardE all c.fr j b with
      | some true => match stepE P call n o c with
        | some c => opsE P call n all r c
        | none => none
      | some false => match o.dst with
        | some d => match Nat.blt d n with
          | true => opsE P call n all r ⟨Tr.set 40 c.fr d none, c.st⟩
          | false => none
        | none => none
      | none => none

def codeE (P : Program) (call : FuncId → List SV → St → Res) (dr : Nat → List Oper → Cf → Option Cf) (n : Nat) (self : Code → Cf → Option (Ex × Cf)) (c : Code) (cf : Cf) : Option (Ex × Cf) :=
  match c with
  | .skip => some (.normal, cf)
  | .region _ ops draw => match draw with
    | false => match opsE P call n ops.toList ops.toList cf with
      | some cf => some (.normal, cf)
      | none => none
    | true => match dr n ops.toList cf with
      | some cf => some (.normal, cf)
      | none => none
  | .seq a b => match self a cf with
    | some (.normal, cf) => self b cf
    | r => r
  | .cond x a b => match x with
    | .tmp t => match cf.fr.get t with
      | some (.one (.v (.bool v))) => match v with
        | true => self a cf
        | false => self b cf
      | _ => none
    | .const w => match w with
      | .bool v => match v with
        | true => self a cf
        | false => self b cf
      | _ => none
    | _ => none
  | .block id b => match self b cf with
    | some (.exit j, cf) => match Nat.beq j id with
      | true => some (.normal, cf)
      | false => some (.exit j, cf)
    | r => r
  | .loop b => match self b cf with
    | some (.normal, cf) => self (.loop b) cf
    | r => r
  | .exit id => some (.exit id, cf)
  | .ret => some (.ret, cf)
  | _ => none

def bindArgs : Nat → List SV → Tr SV → Tr SV
  | _, [], t => t
  | k, a :: r, t => bindArgs (k + 1) r (Tr.set 40 t k (some a))

def resE (P : Program) (cf : Cf) : List ResultVar → Option (List SV)
  | [] => some []
  | .tmp t :: r => match cf.fr.get t, resE P cf r with
    | some v, some l => some (v :: l)
    | _, _ => none
  | .cell t ty :: r => match loadE P cf.fr.get cf.st ty (.tmp t), resE P cf r with
    | some (v, _), some l => some (v :: l)
    | _, _ => none

def notTup : SV → Bool
  | .tup _ => false
  | _ => true
def retE (P : Program) (fn : Func) (cf : Cf) : Res := match resE P cf fn.results.toList with
  | some [v] => some (v, cf.st)
  | some l => match l.all notTup with
    | true => some (.tup l, cf.st)
    | false => none
  | none => none
def callE (P : Program) (self : Nat → Code → Cf → Option (Ex × Cf)) (f : FuncId) (as : List SV) (st : St) : Res :=
  match P.funcs[f]? with
  | some fn => match fn.body with
    | some body => match fn.name == "runtime.NumGoroutine" with
      | true => none
      | false => match Nat.ble as.length fn.ntmps with
        | false => none
        | true => match self fn.ntmps body ⟨bindArgs 0 as .leaf, st⟩ with
          | some (.normal, cf) => retE P fn cf
          | some (.ret, cf) => retE P fn cf
          | _ => none
    | none => none
  | none => none

def ev (P : Program) (dr : (FuncId → List SV → St → Res) → Nat → List Oper → Cf → Option Cf) : Nat → Nat → Code → Cf → Option (Ex × Cf) :=
  Nat.rec (fun _ _ _ => none) (fun _ ih n c cf => codeE P (callE P ih) (dr (callE P ih)) n (ih n) c cf)

def run (P : Program) (dr : (FuncId → List SV → St → Res) → Nat → List Oper → Cf → Option Cf) (n : Nat) (f : FuncId) (as : List SV) : Res := callE P (ev P dr n) f as ⟨.leaf, 0⟩
def isTrue : Res → Bool
  | some (.one (.v (.bool b)), _) => b
  | _ => false
end
end Go.Ev

namespace Go.Ev
open Go Go.Ab

theorem beq_mod (k : Nat) : Nat.beq (Nat.mod k 2) 0 = decide (k % 2 = 0) := by
  show Nat.beq (k % 2) 0 = _
  by_cases h : k % 2 = 0
  · rw [h]; rfl
  · have : k % 2 = 1 := by omega
    rw [this]; rfl
theorem Tr.get_succ {α : Type} (l : Tr α) (x : Option α) (r : Tr α) (k : Nat) : (Tr.node l x r).get (k + 1) = if k % 2 = 0 then l.get (k / 2) else r.get (k / 2) := by
  show Bool.rec (motive := fun _ => Option α) (r.get (Nat.div k 2)) (l.get (Nat.div k 2)) (Nat.beq (Nat.mod k 2) 0) = _
  rw [beq_mod]
  by_cases h : k % 2 = 0
  · rw [if_pos h, decide_eq_true h]; rfl
  · rw [if_neg h, decide_eq_false h]; rfl
theorem Tr.set_leaf {α : Type} (n k : Nat) (v : Option α) : Tr.set (n + 1) (.leaf : Tr α) (k + 1) v = if k % 2 = 0 then .node (Tr.set n .leaf (k / 2) v) none .leaf else .node .leaf none (Tr.set n .leaf (k / 2) v) := by
  show Bool.rec (motive := fun _ => Tr α) (.node .leaf none (Tr.set n .leaf (Nat.div k 2) v)) (.node (Tr.set n .leaf (Nat.div k 2) v) none .leaf) (Nat.beq (Nat.mod k 2) 0) = _
  rw [beq_mod]
  by_cases h : k % 2 = 0
  · rw [if_pos h, decide_eq_true h]; rfl
  · rw [if_neg h, decide_eq_false h]; rfl
theorem Tr.set_succ {α : Type} (n : Nat) (l : Tr α) (x : Option α) (r : Tr α) (k : Nat) (v : Option α) : Tr.set (n + 1) (.node l x r) (k + 1) v = if k % 2 = 0 then .node (Tr.set n l (k / 2) v) x r else .node l x (Tr.set n r (k / 2) v) := by
  show Bool.rec (motive := fun _ => Tr α) (.node l x (Tr.set n r (Nat.div k 2) v)) (.node (Tr.set n l (Nat.div k 2) v) x r) (Nat.beq (Nat.mod k 2) 0) = _
  rw [beq_mod]
  by_cases h : k % 2 = 0
  · rw [if_pos h, decide_eq_true h]; rfl
  · rw [if_neg h, decide_eq_false h]; rfl
theorem Tr.get_leaf {α : Type} (k : Nat) : (.leaf : Tr α).get k = none := rfl

theorem Tr.get_set {α : Type} : ∀ (n : Nat) (t : Tr α) (k : Nat) (v : Option α) (j : Nat) (s : α), (Tr.set n t k v).get j = some s → (j = k ∧ v = some s) ∨ (j ≠ k ∧ t.get j = some s)
  | 0, t, k, v, j, s, h => by cases h
  | n + 1, .leaf, 0, v, 0, s, h => .inl ⟨rfl, h⟩
  | n + 1, .leaf, 0, v, j + 1, s, h => by
    have h' : (Tr.node .leaf v .leaf).get (j + 1) = some s := h
    rw [Tr.get_succ] at h'; split at h' <;> cases h'
  | n + 1, .leaf, k + 1, v, 0, s, h => by
    rw [Tr.set_leaf] at h; split at h <;> cases h
  | n + 1, .leaf, k + 1, v, j + 1, s, h => by
    rw [Tr.set_leaf] at h
    split at h <;> rw [Tr.get_succ] at h <;> split at h
    · rcases Tr.get_set n .leaf (k / 2) v (j / 2) s h with ⟨h1, h2⟩ | ⟨_, h2⟩
      · left; exact ⟨by omega, h2⟩
      · cases h2
    · cases h
    · cases h
    · rcases Tr.get_set n .leaf (k / 2) v (j / 2) s h with ⟨h1, h2⟩ | ⟨_, h2⟩
      · left; exact ⟨by omega, h2⟩
      · cases h2
  | n + 1, .node l x r, 0, v, 0, s, h => .inl ⟨rfl, h⟩
  | n + 1, .node l x r, 0, v, j + 1, s, h => .inr ⟨by omega, by
    have h' : (Tr.node l v r).get (j + 1) = some s := h
    rw [Tr.get_succ] at h' ⊢; exact h'⟩
  | n + 1, .node l x r, k + 1, v, 0, s, h => .inr ⟨by omega, by
    rw [Tr.set_succ] at h; split at h <;> exact h⟩
  | n + 1, .node l x r, k + 1, v, j + 1, s, h => by
    rw [Tr.set_succ] at h
    rw [Tr.get_succ]
    split at h <;> rw [Tr.get_succ] at h <;> split at h
    · rename_i h3 h4
      rw [if_pos h4]
      rcases Tr.get_set n l (k / 2) v (j / 2) s h with ⟨h1, h2⟩ | ⟨h1, h2⟩
      · left; exact ⟨by omega, h2⟩
      · right; exact ⟨by omega, h2⟩
    · rename_i h3 h4
      rw [if_neg h4]
      right; exact ⟨by omega, h⟩
    · rename_i h3 h4
      rw [if_pos h4]
      right; exact ⟨by omega, h⟩
    · rename_i h3 h4
      rw [if_neg h4]
      rcases Tr.get_set n r (k / 2) v (j / 2) s h with ⟨h1, h2⟩ | ⟨h1, h2⟩
      · left; exact ⟨by omega, h2⟩
      · right; exact ⟨by omega, h2⟩

/-- What a block's number stands for. -/
structure BI where
  b : Nat
  cap : Nat

abbrev Env := Nat → Option BI
def Env.le (ρ ρ' : Env) : Prop := ∀ i x, ρ i = some x → ρ' i = some x
theorem Env.le_refl (ρ : Env) : ρ.le ρ := fun _ _ h => h
theorem Env.le_trans {a b c : Env} (h : a.le b) (h' : b.le c) : a.le c := fun i x e => h' i x (h i x e)
def Env.upd (ρ : Env) (k : Nat) (x : BI) : Env := fun i => if i = k then some x else ρ i
theorem Env.upd_le {ρ : Env} {k : Nat} {x : BI} (h : ρ k = none) : ρ.le (ρ.upd k x) := fun i y e => by
  unfold Env.upd; split
  · rename_i hk; subst hk; rw [h] at e; cases e
  · exact e
theorem Env.upd_at {ρ : Env} {k : Nat} {x : BI} : ρ.upd k x k = some x := by simp [Env.upd]

section
variable (U : Nat → Value) (P : Program)

def den1 (ρ : Env) : SC → Value → Prop
  | .v x, w => w = x ∧ x.oneCell' = true
  | .p id off, w => ∃ i, ρ id = some i ∧ w = .pointer (some ⟨i.b, off, none⟩)
  | .s id off len k opn, w => ∃ i, ρ id = some i ∧ w = .slice (some ⟨i.b, off, none⟩) len (if opn then i.cap - k else k) ∧ len ≤ (if opn then i.cap - k else k)
  | .m id, w => ∃ i, ρ id = some i ∧ w = .map (some i.b)
  | .e, w => ∃ a c, w = .slice (some a) 0 c
  | _, _ => False

def den (ρ : Env) : SC → Value → Prop
  | .f fn a b, w => ∃ fa fb, Zip2 (den1 ρ) a fa ∧ Zip2 (den1 ρ) b fb ∧ w = .func fn fa.toArray fb.toArray
  | .i t x, w => ∃ y, den1 ρ x y ∧ w = .iface t y
  | c, w => den1 ρ c w

def denB (ρ : Env) : SV → Value → Prop
  | .one c, w => den ρ c w
  | .agg cs, w => ∃ vs, Zip2 (den ρ) cs vs ∧ w = .agg vs.toArray
  | .u k, w => w = U k
  | .any, _ => True
  | .tup _, _ => False
def denV (ρ : Env) : SV → Value → Prop
  | .tup l, w => ∃ vs, Zip2 (denB U ρ) l vs ∧ w = .tuple vs.toArray
  | x, w => denB U ρ x w

variable {U P}
theorem den1.mono {ρ ρ' : Env} (h : ρ.le ρ') {c : SC} {w : Value} (hd : den1 ρ c w) : den1 ρ' c w := by
  cases c <;> simp only [den1] at hd ⊢
  case v => exact hd
  case p => obtain ⟨i, h1, h2⟩ := hd; exact ⟨i, h _ _ h1, h2⟩
  case s => obtain ⟨i, h1, h2⟩ := hd; exact ⟨i, h _ _ h1, h2⟩
  case m => obtain ⟨i, h1, h2⟩ := hd; exact ⟨i, h _ _ h1, h2⟩
  case e => exact hd
theorem den.mono {ρ ρ' : Env} (h : ρ.le ρ') {c : SC} {w : Value} (hd : den ρ c w) : den ρ' c w := by
  cases c <;> simp only [den] at hd ⊢
  case f => obtain ⟨a, b, h1, h2, h3⟩ := hd; exact ⟨a, b, h1.imp fun _ _ => den1.mono h, h2.imp fun _ _ => den1.mono h, h3⟩
  case i => obtain ⟨y, h1, h2⟩ := hd; exact ⟨y, h1.mono h, h2⟩
  all_goals exact hd.mono h
theorem denB.mono {ρ ρ' : Env} (h : ρ.le ρ') {c : SV} {w : Value} (hd : denB U ρ c w) : denB U ρ' c w := by
  cases c <;> simp only [denB] at hd ⊢
  case one => exact hd.mono h
  case agg => obtain ⟨vs, h1, h2⟩ := hd; exact ⟨vs, h1.imp fun _ _ => den.mono h, h2⟩
  case u => exact hd
theorem denV.mono {ρ ρ' : Env} (h : ρ.le ρ') {c : SV} {w : Value} (hd : denV U ρ c w) : denV U ρ' c w := by
  cases c <;> simp only [denV] at hd ⊢
  case tup => obtain ⟨vs, h1, h2⟩ := hd; exact ⟨vs, h1.imp fun _ _ => denB.mono h, h2⟩
  all_goals exact hd.mono h
theorem den.one {ρ : Env} {c : SC} {w : Value} (h : den ρ c w) : w.oneCell' = true := by
  cases c <;> simp only [den, den1] at h
  case v => rw [h.1]; exact h.2
  case p => obtain ⟨_, _, rfl⟩ := h; rfl
  case s => obtain ⟨_, _, rfl, _⟩ := h; rfl
  case m => obtain ⟨_, _, rfl⟩ := h; rfl
  case f => obtain ⟨_, _, _, _, rfl⟩ := h; rfl
  case i => obtain ⟨_, _, rfl⟩ := h; rfl
  case e => obtain ⟨_, _, rfl⟩ := h; rfl

variable (U P)
def ObjOk (ρ : Env) : Nat × SO → HProp → Prop
  | (id, .cells false cs t), h => ∃ i vs, ρ id = some i ∧ Zip2 (den ρ) cs vs ∧ h = pt i.b (.cells (vs.map .val) t)
  | (id, .cells true cs t), h => ∃ i vs tl s, ρ id = some i ∧ Zip2 (den ρ) cs vs ∧ sizeT P t = some s ∧ (vs ++ tl).length = i.cap * s ∧ h = pt i.b (.cells ((vs ++ tl).map .val) t)
  | (id, .map0 c), h => ∃ i, ρ id = some i ∧ h = pt i.b (.map [] c)
  | (id, .str s pos), h => ∃ i, ρ id = some i ∧ h = pt i.b (.raw (.stringIter s pos))
  | (id, .mapI m c), h => ∃ i j, ρ id = some i ∧ ρ m = some j ∧ h = pt i.b (.raw (.mapIter (some j.b) c #[] c))
def HOk (ρ : Env) (H : Tr SO) (Hs : List HProp) : Prop := ∃ L : List (Nat × SO), (L.map (·.1)).Nodup ∧ (∀ id o, H.get id = some o → (id, o) ∈ L) ∧ Zip2 (ObjOk P ρ) L Hs
structure SOk (ρ : Env) (st : St) (Hs : List HProp) : Prop where
  h : HOk P ρ st.H Hs
  nx : ∀ id, st.nx ≤ id → ρ id = none

variable {U P}
theorem ObjOk.mono {ρ ρ' : Env} (h : ρ.le ρ') {x : Nat × SO} {k : HProp} (ho : ObjOk P ρ x k) : ObjOk P ρ' x k := by
  obtain ⟨id, o⟩ := x
  cases o with
  | cells b cs t =>
    cases b with
    | false => obtain ⟨i, vs, h1, h2, h3⟩ := ho; exact ⟨i, vs, h _ _ h1, h2.imp fun _ _ => den.mono h, h3⟩
    | true => obtain ⟨i, vs, tl, s, h1, h2, h3⟩ := ho; exact ⟨i, vs, tl, s, h _ _ h1, h2.imp fun _ _ => den.mono h, h3⟩
  | map0 c => obtain ⟨i, h1, h2⟩ := ho; exact ⟨i, h _ _ h1, h2⟩
  | str s p => obtain ⟨i, h1, h2⟩ := ho; exact ⟨i, h _ _ h1, h2⟩
  | mapI m c => obtain ⟨i, j, h1, h2, h3⟩ := ho; exact ⟨i, j, h _ _ h1, h _ _ h2, h3⟩
theorem ObjOk.known {ρ : Env} {x : Nat × SO} {k : HProp} (ho : ObjOk P ρ x k) : ∃ i, ρ x.1 = some i := by
  obtain ⟨id, o⟩ := x
  cases o with
  | cells b cs t =>
    cases b with
    | false => obtain ⟨i, vs, h1, _⟩ := ho; exact ⟨i, h1⟩
    | true => obtain ⟨i, vs, tl, s, h1, _⟩ := ho; exact ⟨i, h1⟩
  | map0 c => obtain ⟨i, h1, h2⟩ := ho; exact ⟨i, h1⟩
  | str s p => obtain ⟨i, h1, h2⟩ := ho; exact ⟨i, h1⟩
  | mapI m c => obtain ⟨i, j, h1, h2, h3⟩ := ho; exact ⟨i, h1⟩

theorem zip_mem {α β : Type} {R : α → β → Prop} {l : List α} {m : List β} (h : Zip2 R l m) {x : α} (hx : x ∈ l) : ∃ l1 l2 m1 y m2, l = l1 ++ x :: l2 ∧ m = m1 ++ y :: m2 ∧ Zip2 R l1 m1 ∧ R x y ∧ Zip2 R l2 m2 := by
  induction h with
  | nil => cases hx
  | @cons a b l m h0 ht ih =>
    rcases List.mem_cons.1 hx with rfl | hx
    · exact ⟨[], l, [], b, m, rfl, rfl, .nil, h0, ht⟩
    · obtain ⟨l1, l2, m1, y, m2, rfl, rfl, h1, h2, h3⟩ := ih hx
      exact ⟨a :: l1, l2, b :: m1, y, m2, rfl, rfl, .cons h0 h1, h2, h3⟩

/-- A block that is looked up: its chunk, brought ahead; and what may be put in its place. -/
theorem HOk.get {ρ : Env} {H : Tr SO} {Hs : List HProp} (h : HOk P ρ H Hs) {id : Nat} {o : SO} (hg : H.get id = some o) : ∃ k Hs', Hs.Perm (k :: Hs') ∧ ObjOk P ρ (id, o) k ∧
    (∀ ρ' o' k', ρ.le ρ' → ObjOk P ρ' (id, o') k' → HOk P ρ' (Tr.set 40 H id (some o')) (k' :: Hs')) ∧ HOk P ρ (Tr.set 40 H id none) Hs' := by
  obtain ⟨L, hn, hL, hz⟩ := h
  obtain ⟨l1, l2, m1, k, m2, rfl, rfl, h1, h2, h3⟩ := zip_mem hz (hL _ _ hg)
  have hn' : ((id, o) :: (l1 ++ l2)).Pairwise (fun a b => a.1 ≠ b.1) := by
    have : (List.map (·.1) ((id, o) :: (l1 ++ l2))).Nodup := (List.perm_middle.map _).nodup_iff.1 hn
    rw [List.Nodup, List.pairwise_map] at this
    exact this
  rw [List.pairwise_cons] at hn'
  have mem : ∀ j s, j ≠ id → H.get j = some s → (j, s) ∈ l1 ++ l2 := fun j s hj hs => by
    have := hL j s hs
    simp only [List.mem_append, List.mem_cons] at this ⊢
    rcases this with h | h | h
    · exact .inl h
    · cases h; exact absurd rfl hj
    · exact .inr h
  refine ⟨k, m1 ++ m2, List.perm_middle, h2, fun ρ' o' k' hle ho' => ⟨(id, o') :: (l1 ++ l2), ?_, fun j s hs => ?_, .cons ho' (zip_append (h1.imp fun _ _ => ObjOk.mono hle) (h3.imp fun _ _ => ObjOk.mono hle))⟩, l1 ++ l2, ?_, fun j s hs => ?_, zip_append h1 h3⟩
  · rw [List.Nodup, List.pairwise_map, List.pairwise_cons]
    exact ⟨fun a ha => hn'.1 a ha, hn'.2⟩
  · rcases Tr.get_set _ _ _ _ _ _ hs with ⟨rfl, h⟩ | ⟨hj, h⟩
    · cases h; simp
    · exact List.mem_cons_of_mem _ (mem j s hj h)
  · rw [List.Nodup, List.pairwise_map]; exact hn'.2
  · rcases Tr.get_set _ _ _ _ _ _ hs with ⟨rfl, h⟩ | ⟨hj, h⟩
    · cases h
    · exact mem j s hj h

theorem SOk.put {ρ : Env} {st : St} {Hs : List HProp} (h : SOk P ρ st Hs) (i : BI) (o : SO) (k : HProp) (ho : ObjOk P (ρ.upd st.nx i) (st.nx, o) k) : SOk P (ρ.upd st.nx i) (put st o) (k :: Hs) := by
  have hle : ρ.le (ρ.upd st.nx i) := Env.upd_le (h.nx _ (Nat.le_refl _))
  obtain ⟨L, hn, hL, hz⟩ := h.h
  refine ⟨⟨(st.nx, o) :: L, ?_, fun j s hs => ?_, .cons ho (hz.imp fun _ _ => ObjOk.mono hle)⟩, fun j hj => ?_⟩
  · rw [List.map_cons, List.nodup_cons]
    refine ⟨fun hm => ?_, hn⟩
    obtain ⟨x, hx, hxi⟩ := List.mem_map.1 hm
    obtain ⟨_, _, _, k, _, _, _, _, hk, _⟩ := zip_mem hz hx
    obtain ⟨i, hi⟩ := hk.known
    rw [hxi, h.nx _ (Nat.le_refl _)] at hi; cases hi
  · have hs : (Tr.set 40 st.H st.nx (some o)).get j = some s := hs
    rcases Tr.get_set _ _ _ _ _ _ hs with ⟨rfl, h⟩ | ⟨hj, h⟩
    · cases h; simp
    · exact List.mem_cons_of_mem _ (hL j s h)
  · simp only [Ev.put] at hj
    unfold Env.upd
    rw [if_neg (by omega)]
    exact h.nx _ (by omega)

variable (U) in
/-- The frame shows what is told. -/
def FrOk (ρ : Env) (g : Get) (fr : Fr) : Prop := ∀ t s, g t = some s → ∃ v, fget t fr = some (.val v) ∧ denV U ρ s v
theorem FrOk.mono {ρ ρ' : Env} (h : ρ.le ρ') {g : Get} {fr : Fr} (hf : FrOk U ρ g fr) : FrOk U ρ' g fr := fun t s hs =>
  let ⟨v, h1, h2⟩ := hf t s hs
  ⟨v, h1, h2.mono h⟩
theorem zip_v {ρ : Env} : ∀ {l : List Value}, l.all Value.oneCell' = true → Zip2 (den ρ) (l.map .v) l
  | [], _ => .nil
  | x :: l, h => by
    simp only [List.all_cons, Bool.and_eq_true] at h
    exact .cons ⟨rfl, h.1⟩ (zip_v h.2)
theorem cst_ok {ρ : Env} {x : Value} {s : SV} (h : cst x = some s) : denV U ρ s x := by
  unfold cst at h
  split at h
  · rename_i cs
    split at h
    · rename_i hc
      cases h
      exact ⟨cs.toList, zip_v hc, by simp⟩
    · cases h
  · split at h
    · rename_i hc
      cases h
      exact ⟨rfl, hc⟩
    · cases h
theorem opd_ok {ρ : Env} {g : Get} {fr : Fr} (hf : FrOk U ρ g fr) {x : Operand} {s : SV} (h : opd g x = some s) : ∃ v, oget fr x = some (.val v) ∧ denV U ρ s v := by
  cases x with
  | tmp t => exact hf t s h
  | const v => exact ⟨v, rfl, cst_ok h⟩
  | global g => cases h
  | func f => cases h; exact ⟨_, rfl, [], [], .nil, .nil, rfl⟩
theorem FrOk.set {ρ : Env} {t : Tr SV} {fr : Fr} (hf : FrOk U ρ t.get fr) {d : Nat} {s : SV} {v : Value} (hv : denV U ρ s v) : FrOk U ρ (Tr.set 40 t d (some s)).get ((d, .val v) :: fr) := fun j u hu => by
  unfold fget
  rcases Tr.get_set _ _ _ _ _ _ hu with ⟨rfl, h⟩ | ⟨hj, h⟩
  · cases h
    exact ⟨v, by simp, hv⟩
  · obtain ⟨w, h1, h2⟩ := hf j u h
    refine ⟨w, ?_, h2⟩
    have : Nat.beq j d = false := by rw [Bool.eq_false_iff]; exact fun e => hj (Nat.eq_of_beq_eq_true e)
    rw [this]; exact h1
end
end Go.Ev

namespace Go.Ev
open Go Go.Ab

theorem wrapF_eq (k : IntKind) (n : Int) : wrapF k n = k.wrap n := by
  cases k <;> cases n <;> simp only [wrapF, kuM] <;> simp only [IntKind.wrap, IntKind.bits, IntKind.signed, Int.ofNat_eq_natCast, Int.negSucc_eq] <;> simp <;> omega
theorem ltF_eq (a b : Int) : ltF a b = decide (a < b) := by
  cases a <;> cases b <;> simp only [ltF, Int.ofNat_eq_natCast, Int.negSucc_eq] <;> rw [Bool.eq_iff_iff] <;> simp [Nat.blt_eq] <;> omega
theorem eqF_eq (a b : Int) : eqF a b = (a == b) := by
  cases a <;> cases b <;> simp only [eqF, Int.ofNat_eq_natCast, Int.negSucc_eq] <;> rw [Bool.eq_iff_iff] <;> simp [Nat.beq_eq] <;> omega

theorem bits_core {k : IntKind} {M : Nat} (hk : kuM k = some M) {r : BitVec k.bits} {z : Nat} (hr : r.toNat = z) : Int.ofNat z = k.wrap (r.toNat : Int) := by
  have hlt := r.isLt
  rw [hr] at hlt ⊢
  rw [Int.ofNat_eq_natCast, wrap_id] <;> cases k <;> simp [kuM] at hk <;> simp only [kLo, kHi, IntKind.bits] at hlt ⊢ <;> omega
theorem ofInt_mod {k : IntKind} {M : Nat} (hk : kuM k = some M) (x : Nat) : (BitVec.ofInt k.bits (Int.ofNat x)).toNat = x % M := by
  have hM : M = 2 ^ k.bits := by cases k <;> simp [kuM] at hk <;> subst hk <;> rfl
  rw [BitVec.toNat_ofInt, hM, Int.ofNat_eq_natCast, ← Int.natCast_emod, Int.toNat_natCast]
theorem bitsF_eq (op : BinOp) (k : IntKind) (a b : Int) : bitsF op k a b = bits op k a b := by
  unfold bitsF
  split
  · rename_i M x y hk
    split
    · exact bits_core hk (by rw [BitVec.toNat_and, ofInt_mod hk, ofInt_mod hk]; rfl)
    · exact bits_core hk (by rw [BitVec.toNat_or, ofInt_mod hk, ofInt_mod hk]; rfl)
    · exact bits_core hk (by rw [BitVec.toNat_xor, ofInt_mod hk, ofInt_mod hk]; rfl)
    · rfl
  · rfl
theorem beqB_eq (a b : Bool) : beqB a b = (a == b) := by cases a <;> cases b <;> rfl


section
variable {U : Nat → Value} {P : Program} {J : JD} {n : Nat} {Φ : APost} {fr : Fr} {Hs : List HProp} {K : Fr → List HProp → Prop} {ty : TypeId} {ps : String} {af : Array Edge} {gd : Option (Nat × Bool)} {d : Nat} {ρ : Env} {g : Get} {st : St}

theorem pur_eq {st st' : St} {x : Option SV} {r : SV} (h : pur st x = some (r, st')) : x = some r ∧ st' = st := by
  unfold pur at h
  split at h
  · cases h; exact ⟨rfl, rfl⟩
  · cases h

/-- What an operation's value may be used for. -/
abbrev KOk (U : Nat → Value) (P : Program) (ρ : Env) (st' : St) (r : SV) (d : Nat) (fr : Fr) (K : Fr → List HProp → Prop) : Prop :=
  ∀ ρ' v Hs', ρ.le ρ' → SOk P ρ' st' Hs' → denV U ρ' r v → K ((d, .val v) :: fr) Hs'

theorem one_v {ρ : Env} {x v : Value} (h : denV U ρ (.one (.v x)) v) : v = x := h.1
theorem den_int {ρ : Env} (k : IntKind) (a : Int) : denV U ρ (.one (.v (.int k a))) (.int k a) := ⟨rfl, rfl⟩
theorem den_bool {ρ : Env} (b : Bool) : denV U ρ (.one (.v (.bool b))) (.bool b) := ⟨rfl, rfl⟩

theorem pick_ok {c x y : Operand} {r : SV} {st' : St} (h : pickE g st c x y = some (r, st')) (hd : Nat.blt d n = true) (hs : SOk P ρ st Hs) (hf : FrOk U ρ g fr) (hK : KOk U P ρ st' r d fr K) :
    AOp P J n ⟨some d, .pick c x y, ty, ps, af, gd⟩ K Φ fr Hs := by
  unfold pickE at h
  split at h
  · rename_i b hc
    obtain ⟨v, h1, h2⟩ := opd_ok hf hc
    cases h2.1
    split at h <;> obtain ⟨h3, rfl⟩ := pur_eq h <;> obtain ⟨u, h4, h5⟩ := opd_ok hf h3
    · exact rPickT hd h1 h4 (hK ρ _ _ (Env.le_refl ρ) hs h5)
    · exact rPickF hd h1 h4 (hK ρ _ _ (Env.le_refl ρ) hs h5)
  · cases h

theorem kn_inj {k j : IntKind} (h : Nat.beq (kn k) (kn j) = true) : k = j := by
  cases k <;> cases j <;> first | rfl | (simp [kn] at h)

theorem arith_ok {op : BinOp} {t u : TypeId} {x y : Operand} {k : IntKind} {a b : Int} {r : SV} (h : arithE op k a b = some r) (hd : Nat.blt d n = true) (hx : oget fr x = some (.val (.int k a))) (hy : oget fr y = some (.val (.int k b)))
    (hK : ∀ v, denV U ρ r v → K ((d, .val v) :: fr) Hs) : AOp P J n ⟨some d, .binOp op t x y u, ty, ps, af, gd⟩ K Φ fr Hs := by
  cases op <;> simp only [arithE, ri, rb, quoE, remE, wrapF_eq, bitsF_eq, ltF_eq, eqF_eq] at h
  case add => cases h; exact rAddW hd hx hy (hK _ (den_int _ _))
  case sub => cases h; exact rSubW hd hx hy (hK _ (den_int _ _))
  case mul => cases h; exact rMulW hd hx hy (hK _ (den_int _ _))
  case quo =>
    split at h
    · cases h
    · rename_i hb; cases h; exact rQuo hd hx hy (by simpa using hb) rfl (hK _ (den_int _ _))
  case rem =>
    split at h
    · cases h
    · rename_i hb; cases h; exact rRem hd hx hy (by simpa using hb) rfl (hK _ (den_int _ _))
  case and => cases h; exact rBits hd hx hy rfl rfl (hK _ (den_int _ _))
  case or => cases h; exact rBits hd hx hy rfl rfl (hK _ (den_int _ _))
  case xor => cases h; exact rBits hd hx hy rfl rfl (hK _ (den_int _ _))
  case andNot => cases h; exact rBits hd hx hy rfl rfl (hK _ (den_int _ _))
  case lss => cases h; exact rCmp hd hx hy rfl (hK _ (den_bool _))
  case gtr => cases h; exact rCmp hd hx hy rfl (hK _ (den_bool _))
  case leq => cases h; exact rCmp hd hx hy (r := !decide (b < a)) (by simp [← Int.not_lt]) (hK _ (den_bool _))
  case geq => cases h; exact rCmp hd hx hy (r := !decide (a < b)) (by simp [← Int.not_lt]) (hK _ (den_bool _))
  case eql => cases h; exact rCmp hd hx hy rfl (hK _ (den_bool _))
  case neq => cases h; exact rCmp hd hx hy rfl (hK _ (den_bool _))
  all_goals cases h

theorem int_ok {op : BinOp} {t u : TypeId} {x y : Operand} {k j : IntKind} {a b : Int} {r : SV} (h : intE op k a j b = some r) (hd : Nat.blt d n = true) (hx : oget fr x = some (.val (.int k a))) (hy : oget fr y = some (.val (.int j b)))
    (hK : ∀ v, denV U ρ r v → K ((d, .val v) :: fr) Hs) : AOp P J n ⟨some d, .binOp op t x y u, ty, ps, af, gd⟩ K Φ fr Hs := by
  unfold intE at h
  split at h
  · rename_i hs
    have : op = .shl := by cases op <;> simp [isSh] at hs <;> rfl
    subst this
    unfold shlE at h
    split at h
    · rename_i y0
      cases h
      exact rShl hd hx hy (by simp) (r := wrapF k (a * .ofNat (2 ^ (min y0 k.bits)))) (by rw [wrapF_eq]; simp) (hK _ (den_int _ _))
    · cases h
  · rename_i hs
    have : op = .shr := by cases op <;> simp [isSh] at hs <;> rfl
    subst this
    unfold shrE at h
    split at h
    · rename_i x0
      unfold shrN at h
      split at h
      · rename_i y0
        cases h
        refine rShr hd hx hy (by simp) (r := .ofNat (x0 / 2 ^ (min y0 k.bits))) ?_ (hK _ (den_int _ _))
        simp only [Int.ofNat_eq_natCast, Int.toNat_natCast]
        rw [Int.fdiv_eq_ediv_of_nonneg _ (by exact_mod_cast Nat.zero_le _)]
        norm_cast
      · cases h
    · unfold shrZ at h
      split at h
      · cases h; exact rShr hd hx hy (by simp) rfl (hK _ (den_int _ _))
      · cases h
  · split at h
    · cases h
    · rename_i hk
      have := kn_inj hk; subst this
      exact arith_ok h hd hx hy hK
end
end Go.Ev

namespace Go.Ev
open Go Go.Ab
section
variable {U : Nat → Value} {P : Program} {J : JD} {n : Nat} {Φ : APost} {fr : Fr} {Hs : List HProp} {K : Fr → List HProp → Prop} {ty : TypeId} {ps : String} {af : Array Edge} {gd : Option (Nat × Bool)} {d : Nat} {ρ : Env} {g : Get} {st : St}

theorem semPure_ok {α : Type} : ∀ (n : Nat) (s : Sem α) (a : α), semPure P n s = some a → ∀ w, s.run P w = .ok a w
  | 0, _, _, h, _ => by cases h
  | n + 1, s, a, h, w => by
    unfold semPure at h
    split at h
    · cases h; rfl
    · exact semPure_ok n _ a h w
    · cases h

theorem closeds_ok : ∀ {cs : List SC} {l vs : List Value}, closeds cs = some l → Zip2 (den ρ) cs vs → vs = l
  | [], l, vs, h, hz => by cases h; cases hz; rfl
  | c :: cs, l, vs, h, hz => by
    unfold closeds at h
    split at h
    · rename_i he; cases he
    · rename_i x r he
      cases he
      split at h
      · rename_i l' hl
        cases h
        cases hz with
        | cons h0 ht => rw [closeds_ok hl ht, h0.1]
      · cases h
    · cases h
theorem closed_ok {a : SV} {u v : Value} (h : closed a = some u) (hv : denV U ρ a v) : v = u := by
  unfold closed at h
  split at h
  · cases h; exact hv.1
  · split at h
    · rename_i l hl
      cases h
      obtain ⟨vs, h1, h2⟩ := hv
      rw [h2, closeds_ok hl h1]
    · cases h
  · cases h

theorem byBool_ok {op : BinOp} {b : Bool} {r : SV} (h : byBool op b = some r) : (op = .eql ∧ r = .one (.v (.bool b))) ∨ (op = .neq ∧ r = .one (.v (.bool (!b)))) := by
  cases op <;> simp [byBool, isEq, rb] at h
  · exact .inl ⟨rfl, h.symm⟩
  · exact .inr ⟨rfl, h.symm⟩
theorem isPtr_ok {t : TypeId} (h : isPtrT P t = true) : ∃ e, P.underlying t = some (.pointer e) := by
  unfold isPtrT at h; split at h
  · exact ⟨_, by assumption⟩
  · cases h
theorem isSl_ok {t : TypeId} (h : isSlT P t = true) : ∃ e, P.underlying t = some (.slice e) := by
  unfold isSlT at h; split at h
  · exact ⟨_, by assumption⟩
  · cases h
theorem vsNilP_ok {op : BinOp} {t u : TypeId} {x y : Operand} {p : Addr} {b r : SV} {vb : Value} (h : vsNilP P op t b = some r) (hd : Nat.blt d n = true) (hx : oget fr x = some (.val (.pointer (some p)))) (hy : oget fr y = some (.val vb)) (hb : denV U ρ b vb)
    (hK : ∀ v, denV U ρ r v → K ((d, .val v) :: fr) Hs) : AOp P J n ⟨some d, .binOp op t x y u, ty, ps, af, gd⟩ K Φ fr Hs := by
  unfold vsNilP at h
  split at h
  · cases hb.1
    split at h
    · rename_i ht
      obtain ⟨e, ht⟩ := isPtr_ok ht
      rcases byBool_ok h with ⟨rfl, rfl⟩ | ⟨rfl, rfl⟩
      · exact rBin hd hx hy (r := .bool false) (fun w => by simp [eqGuard, binOp, eq_pn ht]) (hK _ (den_bool _))
      · exact rBin hd hx hy (r := .bool true) (fun w => by simp [eqGuard, binOp, eq_pn ht]) (hK _ (den_bool _))
    · cases h
  · cases h
theorem vsNilS_ok {op : BinOp} {t u : TypeId} {x y : Operand} {p : Addr} {l c : Nat} {b r : SV} {vb : Value} (h : vsNilS P op t b = some r) (hd : Nat.blt d n = true) (hx : oget fr x = some (.val (.slice (some p) l c))) (hy : oget fr y = some (.val vb)) (hb : denV U ρ b vb)
    (hK : ∀ v, denV U ρ r v → K ((d, .val v) :: fr) Hs) : AOp P J n ⟨some d, .binOp op t x y u, ty, ps, af, gd⟩ K Φ fr Hs := by
  unfold vsNilS at h
  split at h
  · cases hb.1
    split at h
    · rename_i ht
      obtain ⟨e, ht⟩ := isSl_ok ht
      rcases byBool_ok h with ⟨rfl, rfl⟩ | ⟨rfl, rfl⟩
      · exact rBin hd hx hy (r := .bool false) (fun w => by simp [eqGuard, binOp, eq_sn ht]) (hK _ (den_bool _))
      · exact rBin hd hx hy (r := .bool true) (fun w => by simp [eqGuard, binOp, eq_sn ht]) (hK _ (den_bool _))
    · cases h
  · cases h

theorem binOp_ok {op : BinOp} {t u : TypeId} {x y : Operand} {r : SV} {st' : St} (h : binOpE P g st op t x y = some (r, st')) (hd : Nat.blt d n = true) (hs : SOk P ρ st Hs) (hf : FrOk U ρ g fr) (hK : KOk U P ρ st' r d fr K) :
    AOp P J n ⟨some d, .binOp op t x y u, ty, ps, af, gd⟩ K Φ fr Hs := by
  unfold binOpE at h
  split at h
  · rename_i a ha
    split at h
    · rename_i b hb
      obtain ⟨hh, rfl⟩ := pur_eq h; replace h := hh; clear hh
      obtain ⟨va, h1, h2⟩ := opd_ok hf ha
      obtain ⟨vb, h3, h4⟩ := opd_ok hf hb
      have hK' : ∀ v, denV U ρ r v → K ((d, .val v) :: fr) Hs := fun v hv => hK ρ v Hs (Env.le_refl ρ) hs hv
      unfold binE at h
      split at h
      · cases h2.1
        unfold binI at h
        split at h
        · cases h4.1
          exact int_ok h hd h1 h3 hK'
        · cases h
      · obtain ⟨i, _, rfl⟩ := h2
        exact vsNilP_ok h hd h1 h3 h4 hK'
      · obtain ⟨i, _, rfl, _⟩ := h2
        exact vsNilS_ok h hd h1 h3 h4 hK'
      · obtain ⟨p, c, rfl⟩ := h2
        exact vsNilS_ok h hd h1 h3 h4 hK'
      · unfold binC at h
        split at h
        · rename_i u1 hu1
          split at h
          · rename_i v1 hv1
            split at h
            · rename_i r1 hr1
              cases closed_ok hu1 h2
              cases closed_ok hv1 h4
              exact rBin hd h1 h3 (semPure_ok _ _ _ hr1) (hK' _ (cst_ok h))
            · cases h
          · cases h
        · cases h
    · cases h
  · cases h

theorem unOp_ok {op : UnOp} {t : TypeId} {x : Operand} {r : SV} {st' : St} (h : unOpE g st op x = some (r, st')) (hd : Nat.blt d n = true) (hs : SOk P ρ st Hs) (hf : FrOk U ρ g fr) (hK : KOk U P ρ st' r d fr K) :
    AOp P J n ⟨some d, .unOp op t x, ty, ps, af, gd⟩ K Φ fr Hs := by
  unfold unOpE at h
  split at h
  · rename_i a ha
    obtain ⟨hh, rfl⟩ := pur_eq h; replace h := hh; clear hh
    obtain ⟨va, h1, h2⟩ := opd_ok hf ha
    have hK' : ∀ v, denV U ρ r v → K ((d, .val v) :: fr) Hs := fun v hv => hK ρ v Hs (Env.le_refl ρ) hs hv
    unfold unE at h
    split at h
    · cases h2.1; cases h; exact rNot hd h1 (hK' _ (den_bool _))
    · cases h2.1; cases h; exact rNeg hd h1 (wrapF_eq _ _).symm (hK' _ (den_int _ _))
    · cases h2.1; cases h; exact rXorU hd h1 (bitsF_eq _ _ _ _).symm (hK' _ (den_int _ _))
    · cases h
  · cases h

theorem conv_ok {s t : TypeId} {x : Operand} {r : SV} {st' : St} (h : convE P g st s t x = some (r, st')) (hd : Nat.blt d n = true) (hs : SOk P ρ st Hs) (hf : FrOk U ρ g fr) (hK : KOk U P ρ st' r d fr K) :
    AOp P J n ⟨some d, .convert s t x, ty, ps, af, gd⟩ K Φ fr Hs := by
  unfold convE at h
  split at h
  · rename_i k m ha
    obtain ⟨va, h1, h2⟩ := opd_ok hf ha
    split at h
    · rename_i k' ht
      split at h
      · rename_i ds hsr
        obtain ⟨hh, rfl⟩ := pur_eq h; replace h := hh; clear hh
        cases h
        cases h2.1
        exact rConv (by rw [hsr]; rfl) ht hd h1 (wrapF_eq _ _).symm (hK ρ _ Hs (Env.le_refl ρ) hs (den_int _ _))
      · cases h
    · cases h
  · cases h

theorem nil_ok {x : Operand} {r : SV} {st' : St} (h : nilE g st x = some (r, st')) (hd : Nat.blt d n = true) (hs : SOk P ρ st Hs) (hf : FrOk U ρ g fr) (hK : KOk U P ρ st' r d fr K) :
    AOp P J n ⟨some d, .nilCheck x, ty, ps, af, gd⟩ K Φ fr Hs := by
  unfold nilE at h
  split at h
  · rename_i id off ha
    cases h
    obtain ⟨va, h1, h2⟩ := opd_ok hf ha
    have h2c := h2; obtain ⟨i, h3, rfl⟩ := h2c
    exact rNil hd h1 (hK ρ _ Hs (Env.le_refl ρ) hs h2)
  · cases h

theorem zip_get {α β : Type} {R : α → β → Prop} {l : List α} {m : List β} (h : Zip2 R l m) : ∀ {i : Nat} {a : α}, l[i]? = some a → ∃ b, m[i]? = some b ∧ R a b := by
  induction h with
  | nil => intro i a h; simp at h
  | cons h0 _ ih =>
    intro i a h
    cases i with
    | zero => simp at h; subst h; exact ⟨_, rfl, h0⟩
    | succ i => exact ih (by simpa using h)

theorem extract_ok {x : Operand} {i : Nat} {r : SV} {st' : St} (h : extractE g st x i = some (r, st')) (hd : Nat.blt d n = true) (hs : SOk P ρ st Hs) (hf : FrOk U ρ g fr) (hK : KOk U P ρ st' r d fr K) :
    AOp P J n ⟨some d, .extract x i, ty, ps, af, gd⟩ K Φ fr Hs := by
  unfold extractE at h
  split at h
  · rename_i l ha
    obtain ⟨hh, rfl⟩ := pur_eq h; replace h := hh; clear hh
    obtain ⟨va, h1, vs, hz, rfl⟩ := opd_ok hf ha
    obtain ⟨u, hu, hr⟩ := zip_get hz h
    have hr' : denV U ρ r u := by
      cases r <;> first | exact hr | exact hr.elim
    exact aop_val hd (fun _ _ a w hs => ⟨u, by simp [execOp, hs.frame.val h1, Instr.extract, hu], .val u⟩) (hK ρ _ Hs (Env.le_refl ρ) hs hr')
  · cases h
end
end Go.Ev

namespace Go.Ev
open Go Go.Ab
section
variable {U : Nat → Value} {P : Program} {J : JD} {n : Nat} {Φ : APost} {fr : Fr} {Hs : List HProp} {K : Fr → List HProp → Prop} {ty : TypeId} {ps : String} {af : Array Edge} {gd : Option (Nat × Bool)} {d : Nat} {ρ : Env} {g : Get} {st : St}

theorem zip_perm {α β : Type} {R : α → β → Prop} {m m' : List β} (hp : m.Perm m') : ∀ {l : List α}, Zip2 R l m → ∃ l', l.Perm l' ∧ Zip2 R l' m' := by
  induction hp with
  | nil => intro l h; exact ⟨l, .refl _, h⟩
  | cons x _ ih =>
    intro l h
    cases h with
    | cons h0 ht => obtain ⟨l', hp, hz⟩ := ih ht; exact ⟨_, hp.cons _, .cons h0 hz⟩
  | swap x y t =>
    intro l h
    cases h with
    | cons h0 ht => cases ht with
      | cons h1 ht => exact ⟨_, .swap _ _ _, .cons h1 (.cons h0 ht)⟩
  | trans _ _ ih1 ih2 =>
    intro l h
    obtain ⟨l1, p1, h1⟩ := ih1 h
    obtain ⟨l2, p2, h2⟩ := ih2 h1
    exact ⟨l2, p1.trans p2, h2⟩
theorem HOk.perm {H : Tr SO} {Hs Hs' : List HProp} (h : HOk P ρ H Hs) (hp : Hs.Perm Hs') : HOk P ρ H Hs' := by
  obtain ⟨L, hn, hL, hz⟩ := h
  obtain ⟨L', hp', hz'⟩ := zip_perm hp hz
  exact ⟨L', (hp'.map _).nodup_iff.1 hn, fun id o hg => hp'.mem_iff.1 (hL id o hg), hz'⟩
theorem SOk.perm {st : St} {Hs Hs' : List HProp} (h : SOk P ρ st Hs) (hp : Hs.Perm Hs') : SOk P ρ st Hs' := ⟨h.h.perm hp, h.nx⟩

theorem cells_chunk {id : Nat} {b : Bool} {cs : List SC} {t : TypeId} {k : HProp} (h : ObjOk P ρ (id, .cells b cs t) k) : ∃ i vs tl, ρ id = some i ∧ Zip2 (den ρ) cs vs ∧ k = pt i.b (.cells ((vs ++ tl).map .val) t) ∧
    ∀ cs' vs', Zip2 (den ρ) cs' vs' → vs'.length = vs.length → ObjOk P ρ (id, .cells b cs' t) (pt i.b (.cells ((vs' ++ tl).map .val) t)) := by
  cases b with
  | false =>
    obtain ⟨i, vs, h1, h2, h3⟩ := h
    exact ⟨i, vs, [], h1, h2, by rw [List.append_nil]; exact h3, fun cs' vs' hz _ => ⟨i, vs', h1, hz, by rw [List.append_nil]⟩⟩
  | true =>
    obtain ⟨i, vs, tl, s, h1, h2, h3, h4, h5⟩ := h
    exact ⟨i, vs, tl, h1, h2, h5, fun cs' vs' hz hl => ⟨i, vs', tl, s, h1, hz, h3, by rw [← h4]; simp [hl], rfl⟩⟩

theorem size_of {t : TypeId} {s : Nat} (h : sizeT P t = some s) : ∀ w, (sizeOf t).run P w = .ok s w := by
  unfold sizeT at h
  split at h
  · rename_i i hi; cases h; intro w; simp [sizeOf, typeInfo, hi]
  · cases h
theorem agg_T {t : TypeId} {b : Bool} (h : isAggT P t = some b) : ∀ w, (isAgg t).run P w = .ok b w := by
  unfold isAggT at h
  split at h
  · rename_i dd hd
    cases h
    intro w
    cases dd <;> simp [isAggD, isAgg, run_underlying hd]
  · cases h

/-- An exact cell of an owned block. -/
theorem sep_get {I : Im} {w : World} {b off : Nat} {vs : List Value} {t : TypeId} {v : Value} {F : List HProp} (h : SepG I (pt b (.cells (vs.map .val) t) :: F) w) (hv : vs[off]? = some v) : w.cell? ⟨b, off, none⟩ = some v := by
  obtain ⟨u, h1, _, h2⟩ := h.get (off := off) (c := .val v) (by rw [List.getElem?_map, hv]; rfl)
  rw [h1, h2.val_eq]

theorem zip_len {α β : Type} {R : α → β → Prop} {l : List α} {m : List β} (h : Zip2 R l m) : l.length = m.length := h.length
theorem zip_drop {α β : Type} {R : α → β → Prop} {l : List α} {m : List β} (h : Zip2 R l m) : ∀ k, Zip2 R (l.drop k) (m.drop k) := by
  induction h with
  | nil => intro k; simp; exact .nil
  | cons h0 ht ih => intro k; cases k with
    | zero => exact .cons h0 ht
    | succ k => exact ih k
theorem zip_take {α β : Type} {R : α → β → Prop} {l : List α} {m : List β} (h : Zip2 R l m) : ∀ k, Zip2 R (l.take k) (m.take k) := by
  induction h with
  | nil => intro k; simp; exact .nil
  | cons h0 ht ih => intro k; cases k with
    | zero => exact .nil
    | succ k => exact .cons h0 (ih k)

/-- What a value is, taken out of cells. -/
theorem take_ok {t : TypeId} {cs : List SC} {off : Nat} {r : SV} {vs : List Value} (h : takeE P t cs off = some r) (hz : Zip2 (den ρ) cs vs) :
    (∃ v, isAggT P t = some false ∧ vs[off]? = some v ∧ denV U ρ r v) ∨ (∃ s, isAggT P t = some true ∧ sizeT P t = some s ∧ off + s ≤ vs.length ∧ denV U ρ r (.agg ((vs.drop off).take s).toArray)) ∨ (∃ s, isAggT P t = some true ∧ sizeT P t = some 0 ∧ s = 0 ∧ denV U ρ r (.agg #[])) := by
  unfold takeE at h
  split at h
  · rename_i ha
    split at h
    · rename_i c hc
      cases h
      obtain ⟨v, h1, h2⟩ := zip_get hz hc
      exact .inl ⟨v, ha, h1, h2⟩
    · cases h
  · rename_i ha
    split at h
    · rename_i s hs
      dsimp only at h
      split at h
      · rename_i hl
        cases h
        have hl' : ((cs.drop off).take s).length = s := Nat.eq_of_beq_eq_true hl
        have hzz := zip_take (zip_drop hz off) s
        by_cases h0 : s = 0
        · subst h0
          right; right
          refine ⟨0, ha, hs, rfl, [], ?_, rfl⟩
          simp; exact .nil
        · right; left
          refine ⟨s, ha, hs, ?_, _, hzz, rfl⟩
          rw [List.length_take, List.length_drop] at hl'
          have := zip_len hz
          omega
      · cases h
    · cases h
  · cases h

theorem load_ok {t : TypeId} {x : Operand} {r : SV} {st' : St} (h : loadE P g st t x = some (r, st')) (hd : Nat.blt d n = true) (hs : SOk P ρ st Hs) (hf : FrOk U ρ g fr) (hK : KOk U P ρ st' r d fr K) :
    AOp P J n ⟨some d, .load t x, ty, ps, af, gd⟩ K Φ fr Hs := by
  unfold loadE at h
  split at h
  · rename_i id off ha
    obtain ⟨va, h1, i, hi, rfl⟩ := opd_ok hf ha
    split at h
    · rename_i b cs tt hg
      obtain ⟨hh, rfl⟩ := pur_eq h; replace h := hh; clear hh
      obtain ⟨k, Hs', hp, ho, _, _⟩ := hs.h.get hg
      obtain ⟨i', vs, tl, hi', hz, rfl, _⟩ := cells_chunk ho
      rw [hi] at hi'; cases hi'
      refine aop_perm hp ?_
      have hs' := hs.perm hp
      rcases take_ok (U := U) h hz with ⟨v, ha, hv, hr⟩ | ⟨s, ha, hs0, hle, hr⟩ | ⟨s, ha, hs0, rfl, hr⟩
      · refine aop_val hd (fun F I a w hA => ⟨v, ?_, .val v⟩) (hK ρ _ _ (Env.le_refl ρ) hs' hr)
        have hc := sep_get hA.sep (off := off) (v := v) (by rw [List.getElem?_append_left (lt_of_get hv)]; exact hv)
        simp [execOp, hA.frame.val h1, Instr.loadAt, Instr.sureAddr, loadVar, agg_T ha, hc]
      · refine aop_val hd (fun F I a w hA => ⟨.agg ((vs.drop off).take s).toArray, ?_, .val _⟩) (hK ρ _ _ (Env.le_refl ρ) hs' hr)
        have hl := run_loadCells_list (P := P) (w := w) ⟨i.b, off, none⟩ ((vs.drop off).take s) fun j v hv => by
          rw [addr_add]
          refine sep_get hA.sep ?_
          rw [List.getElem?_take] at hv
          split at hv
          · rw [List.getElem?_drop] at hv
            rw [List.getElem?_append_left (lt_of_get hv)]; exact hv
          · cases hv
        have hlen : ((vs.drop off).take s).length = s := by rw [List.length_take, List.length_drop]; omega
        rw [hlen] at hl
        simp [execOp, hA.frame.val h1, Instr.loadAt, Instr.sureAddr, loadVar, agg_T ha, size_of hs0, hl]
      · refine aop_val hd (fun F I a w hA => ⟨.agg #[], ?_, .val _⟩) (hK ρ _ _ (Env.le_refl ρ) hs' hr)
        have hl := run_loadCells_list (P := P) (w := w) ⟨i.b, off, none⟩ [] fun j v hv => by simp at hv
        simp only [List.length_nil] at hl
        simp [execOp, hA.frame.val h1, Instr.loadAt, Instr.sureAddr, loadVar, agg_T ha, size_of hs0, hl]
    · cases h
  · cases h
end
end Go.Ev

namespace Go.Ev
open Go Go.Ab
section
variable {U : Nat → Value} {P : Program} {J : JD} {n : Nat} {Φ : APost} {fr : Fr} {Hs : List HProp} {K : Fr → List HProp → Prop} {ty : TypeId} {ps : String} {af : Array Edge} {gd : Option (Nat × Bool)} {d : Nat} {ρ : Env} {g : Get} {st : St}

theorem zero_of {t : TypeId} {s : Nat} {z : List Value} (h : zeroT P t = some (s, z)) : ∃ zv by_, TI P t s by_ zv ∧ zv.cells.toList = z ∧ z.all Value.oneCell' = true := by
  unfold zeroT at h
  split at h
  · rename_i i hi
    split at h
    · rename_i zv hz
      split at h
      · rename_i ha
        cases h
        exact ⟨zv, i.bytes, ⟨i, hi, rfl, rfl, hz⟩, rfl, ha⟩
      · cases h
    · cases h
  · cases h

/-- A new block, its cells known. -/
theorem SOk.new {cs : List SC} {vs : List Value} {t : TypeId} {b : Nat} (hs : SOk P ρ st Hs) (hz : Zip2 (den ρ) cs vs) : ∃ ρ', ρ.le ρ' ∧ ρ' st.nx = some ⟨b, 0⟩ ∧ SOk P ρ' (Ev.put st (.cells false cs t)) (pt b (.cells (vs.map .val) t) :: Hs) := by
  have hle : ρ.le (ρ.upd st.nx ⟨b, 0⟩) := Env.upd_le (hs.nx _ (Nat.le_refl _))
  exact ⟨ρ.upd st.nx ⟨b, 0⟩, hle, Env.upd_at, hs.put ⟨b, 0⟩ (.cells false cs t) _ ⟨⟨b, 0⟩, vs, Env.upd_at, hz.imp fun _ _ => den.mono hle, rfl⟩⟩

theorem alloc_ok {t : TypeId} {r : SV} {st' : St} (h : allocE P st t = some (r, st')) (hd : Nat.blt d n = true) (hs : SOk P ρ st Hs) (hK : KOk U P ρ st' r d fr K) :
    AOp P J n ⟨some d, .alloc t, ty, ps, af, gd⟩ K Φ fr Hs := by
  unfold allocE at h
  split at h
  · rename_i s z hz
    cases h
    obtain ⟨zv, by_, hT, rfl, ha⟩ := zero_of hz
    refine rAlloc hT hd fun b => ?_
    obtain ⟨ρ', hle, hat, hs'⟩ := hs.new (b := b) (t := t) (zip_v ha)
    exact hK ρ' _ _ hle hs' ⟨_, hat, rfl⟩
  · cases h

theorem cellsOf_ok {v : SV} {cs : List SC} {u : Value} (h : cellsOf v = some cs) (hv : denV U ρ v u) : Zip2 (den ρ) cs u.cells.toList := by
  cases v <;> simp only [cellsOf] at h
  case one =>
    cases h
    have hu : u.cells.toList = [u] := by
      have h1 : den ρ _ u := hv
      have := h1.one
      cases u <;> simp [Value.oneCell'] at this <;> rfl
    rw [hu]; exact .cons hv .nil
  case agg => cases h; obtain ⟨vs, hz, rfl⟩ := hv; simpa [Value.cells] using hz
  all_goals cases h

theorem box_ok {t : TypeId} {x : Operand} {r : SV} {st' : St} (h : boxE g st t x = some (r, st')) (hd : Nat.blt d n = true) (hs : SOk P ρ st Hs) (hf : FrOk U ρ g fr) (hK : KOk U P ρ st' r d fr K) :
    AOp P J n ⟨some d, .box t x, ty, ps, af, gd⟩ K Φ fr Hs := by
  unfold boxE at h
  split at h
  · rename_i v hv
    split at h
    · rename_i cs hc
      cases h
      obtain ⟨u, h1, h2⟩ := opd_ok hf hv
      have hz := cellsOf_ok hc h2
      refine aop_of hd (fun b => ptr b 0) (fun b => pt b (.cells (u.cells.toList.map .val) t) :: Hs) (fun F I a w hA => ?_) fun b => ?_
      · refine ⟨w.heap.size, I, .pointer (some ⟨w.heap.size, 0, none⟩), { w with heap := w.heap.push (.cells u.cells t) }, Im.le_refl I, by simp [execOp, hA.frame.val h1, Instr.box, newVar, newRow], ?_, .val _⟩
        exact hA.sep.push (.cells u.cells t) _ _ rfl fun hI => ⟨u.cells, by simp, by simp, fun i v c hv hc => by
          rw [List.getElem?_map] at hc
          simp at hc
          obtain ⟨_, h3, rfl⟩ := hc
          rw [hv] at h3; cases h3; exact .val _, hI⟩
      · obtain ⟨ρ', hle, hat, hs'⟩ := hs.new (b := b) (t := t) hz
        exact hK ρ' _ _ hle hs' ⟨_, hat, rfl⟩
    · cases h
  · cases h

theorem setlV_succ : ∀ (ms : List Value) (v : Value) (vs : List Value) (n : Nat), setlV (v :: vs) (n + 1) ms = v :: setlV vs n ms
  | [], _, _, _ => rfl
  | m :: ms, v, vs, n => by simp only [setlV, List.set_cons_succ]; exact setlV_succ ms v _ _
theorem setlV_zero (m : Value) (ms : List Value) (v : Value) (vs : List Value) : setlV (v :: vs) 0 (m :: ms) = m :: setlV vs 0 ms := by
  simp only [setlV, List.set_cons_zero]; exact setlV_succ ms m vs 0
theorem zip_setAt : ∀ {cs : List SC} {vs : List Value} (off : Nat) {ms : List SC} {mv : List Value}, Zip2 (den ρ) cs vs → Zip2 (den ρ) ms mv → off + ms.length ≤ cs.length → Zip2 (den ρ) (setAt cs off ms) (setlV vs off mv)
  | cs, vs, off, _, _, hz, .nil, _ => by cases cs <;> exact hz
  | _, _, off, _, _, .nil, .cons h0 ht, hl => by simp at hl
  | _, _, 0, _, _, .cons k0 kt, .cons h0 ht, hl => by
    rw [setlV_zero]; exact .cons h0 (zip_setAt 0 kt ht (by simp at hl ⊢; omega))
  | _, _, off + 1, _, _, .cons k0 kt, .cons h0 ht, hl => by
    rw [setlV_succ]; exact .cons k0 (zip_setAt off kt (.cons h0 ht) (by simp at hl ⊢; omega))
theorem setl_val : ∀ (ms l : List Value) (off : Nat), setl (l.map .val) off (ms.map .val) = (setlV l off ms).map .val
  | [], _, _ => rfl
  | m :: ms, l, off => by simp only [List.map_cons, setl, setlV]; rw [← List.map_set]; exact setl_val ms _ _
theorem setlV_append : ∀ (ms vs tl : List Value) (off : Nat), off + ms.length ≤ vs.length → setlV (vs ++ tl) off ms = setlV vs off ms ++ tl
  | [], _, _, _, _ => rfl
  | m :: ms, vs, tl, off, h => by
    simp only [List.length_cons] at h
    simp only [setlV]
    rw [List.set_append_left _ _ (by omega)]
    exact setlV_append ms _ tl _ (by simp; omega)
theorem zip_vals {I : Im} : ∀ {cs : List SC} {vs : List Value}, Zip2 (den ρ) cs vs → Zip2 (fun v m => Rel I v m ∧ v.oneCell' = true) vs (vs.map .val)
  | _, _, .nil => .nil
  | _, _, .cons h t => .cons ⟨.val _, h.one⟩ (zip_vals t)

theorem store_ok {t : TypeId} {x y : Operand} {st' : St} (h : storeE P g st t x y = some st') (hs : SOk P ρ st Hs) (hf : FrOk U ρ g fr) (hK : ∀ Hs', SOk P ρ st' Hs' → K fr Hs') :
    AOp P J n ⟨none, .store t x y, ty, ps, af, gd⟩ K Φ fr Hs := by
  unfold storeE at h
  split at h
  · rename_i id off ha
    obtain ⟨va, h1, i, hi, rfl⟩ := opd_ok hf ha
    split at h
    · rename_i v hv
      obtain ⟨u, h3, h4⟩ := opd_ok hf hv
      split at h
      · rename_i ms hms
        have hzm := cellsOf_ok hms h4
        split at h
        · rename_i s hsz
          split at h
          · rename_i hl
            have hl' : ms.length = s := Nat.eq_of_beq_eq_true hl
            unfold stE at h
            split at h
            · rename_i b cs tt hg
              split at h
              · rename_i hle
                cases h
                have hle' : off + ms.length ≤ cs.length := Nat.le_of_ble_eq_true hle
                obtain ⟨k, Hs', hp, ho, hset, _⟩ := hs.h.get hg
                obtain ⟨i', vs, tl, hi', hz, rfl, hre⟩ := cells_chunk ho
                rw [hi] at hi'; cases hi'
                refine aop_perm hp ?_
                have hvl : cs.length = vs.length := zip_len hz
                have hml : ms.length = u.cells.toList.length := zip_len hzm
                refine aop_unit (Hs' := pt i.b (.cells ((setlV vs off u.cells.toList ++ tl).map .val) tt) :: Hs') (fun F I a w hA => ?_) ?_
                · obtain ⟨w', h5, h6⟩ := run_storeCells (P := P) u.cells.toList (u.cells.toList.map .val) ((vs ++ tl).map .val) off 0 w (zip_vals hzm) (by simp at hml ⊢; omega) hA.sep
                  rw [Nat.add_zero, setl_val, setlV_append _ _ _ _ (by omega)] at h6
                  refine ⟨I, w', Im.le_refl I, ?_, h6⟩
                  have hsz' : u.cells.size = s := by simp at hml; omega
                  simp [execOp, hA.frame.val h1, hA.frame.val h3, Instr.storeAt, Instr.sureAddr, storeVar, size_of hsz, hsz', h5]
                · refine hK _ ⟨hset ρ _ _ (Env.le_refl ρ) (hre _ _ (zip_setAt off hz hzm hle') (setlV_length _ _ _)), fun j hj => hs.nx j hj⟩
              · cases h
            · cases h
          · cases h
        · cases h
      · cases h
    · cases h
  · cases h

theorem fieldT_ok {s : TypeId} {f o m : Nat} (h : fieldT P s f = some (o, m)) : ∃ fs fd, P.underlying s = some (.struct fs) ∧ fs[f]? = some fd ∧ fd.offset = o ∧ sizeT P fd.type = some m := by
  unfold fieldT at h
  split at h
  · rename_i fs hfs
    split at h
    · rename_i fd hfd
      split at h
      · rename_i m' hm; cases h; exact ⟨fs, fd, hfs, hfd, rfl, hm⟩
      · cases h
    · cases h
  · cases h

theorem idx_ok {y : SV} {i : Nat} {v : Value} (h : idx y = some i) (hv : denV U ρ y v) : ∃ k, v = .int k (i : Int) := by
  unfold idx at h
  split at h
  · cases h; exact ⟨_, hv.1⟩
  · cases h

theorem makeMap_ok {t : TypeId} {x : Option Operand} {r : SV} {st' : St} (h : makeMapE st x = some (r, st')) (hd : Nat.blt d n = true) (hs : SOk P ρ st Hs) (hK : KOk U P ρ st' r d fr K) :
    AOp P J n ⟨some d, .makeMap t x, ty, ps, af, gd⟩ K Φ fr Hs := by
  unfold makeMapE at h
  split at h
  · cases h
    refine aop_of hd (fun b => .val (.map (some b))) (fun b => pt b (.map [] 0) :: Hs) (fun F I a w hA => ?_) fun b => ?_
    · refine ⟨w.heap.size, I, .map (some w.heap.size), { w with heap := w.heap.push (.map #[] 0) }, Im.le_refl I, by simp [execOp, Instr.makeMap], ?_, .val _⟩
      exact hA.sep.push (.map #[] 0) _ _ rfl fun hI => ⟨#[], by simp, .nil⟩
    · have hle : ρ.le (ρ.upd st.nx ⟨b, 0⟩) := Env.upd_le (hs.nx _ (Nat.le_refl _))
      exact hK (ρ.upd st.nx ⟨b, 0⟩) _ _ hle (hs.put ⟨b, 0⟩ _ _ ⟨⟨b, 0⟩, Env.upd_at, rfl⟩) ⟨⟨b, 0⟩, Env.upd_at, rfl⟩
  · cases h
end
end Go.Ev

namespace Go.Ev
open Go Go.Ab
section
variable {U : Nat → Value} {P : Program} {J : JD} {n : Nat} {Φ : APost} {fr : Fr} {Hs : List HProp} {K : Fr → List HProp → Prop} {ty : TypeId} {ps : String} {af : Array Edge} {gd : Option (Nat × Bool)} {d : Nat} {ρ : Env} {g : Get} {st : St}

theorem sizeT_info {t : TypeId} {s : Nat} (h : sizeT P t = some s) : ∃ i, P.info? t = some i ∧ i.size = s := by
  unfold sizeT at h
  split at h
  · rename_i i hi; cases h; exact ⟨i, hi, rfl⟩
  · cases h
theorem fieldA_ok {s : TypeId} {x : Operand} {f : Nat} {r : SV} {st' : St} (h : fieldAE P g st s x f = some (r, st')) (hd : Nat.blt d n = true) (hs : SOk P ρ st Hs) (hf : FrOk U ρ g fr) (hK : KOk U P ρ st' r d fr K) :
    AOp P J n ⟨some d, .fieldAddr s x f, ty, ps, af, gd⟩ K Φ fr Hs := by
  unfold fieldAE at h
  split at h
  · rename_i id off ha
    obtain ⟨va, h1, i, hi, rfl⟩ := opd_ok hf ha
    split at h
    · rename_i o m hm
      split at h
      · cases h
      · rename_i m' 
        cases h
        obtain ⟨fs, fd, h2, h3, rfl, h5⟩ := fieldT_ok hm
        obtain ⟨ii, hii, hsz⟩ := sizeT_info h5
        exact rField ⟨fs, fd, ii, h2, h3, rfl, hii, by omega⟩ hd h1 (hK ρ _ _ (Env.le_refl ρ) hs ⟨i, hi, rfl⟩)
    · cases h
  · cases h

theorem part_run {t : TypeId} {cs : List SC} {off : Nat} {r : SV} {vs : List Value} (h : takeE P t cs off = some r) (hz : Zip2 (den ρ) cs vs) : ∃ v, denV U ρ r v ∧ ∀ w, (part t vs.toArray off).run P w = .ok v w := by
  rcases take_ok (U := U) h hz with ⟨v, ha, hv, hr⟩ | ⟨s, ha, hs0, hle, hr⟩ | ⟨s, ha, hs0, rfl, hr⟩
  · exact ⟨v, hr, fun w => by simp [part, agg_T ha, hv]⟩
  · refine ⟨_, hr, fun w => ?_⟩
    simp [part, agg_T ha, size_of hs0]
  · refine ⟨_, hr, fun w => ?_⟩
    simp [part, agg_T ha, size_of hs0]

theorem field_ok {s : TypeId} {x : Operand} {f : Nat} {r : SV} {st' : St} (h : fieldE P g st s x f = some (r, st')) (hd : Nat.blt d n = true) (hs : SOk P ρ st Hs) (hf : FrOk U ρ g fr) (hK : KOk U P ρ st' r d fr K) :
    AOp P J n ⟨some d, .field s x f, ty, ps, af, gd⟩ K Φ fr Hs := by
  unfold fieldE at h
  split at h
  · rename_i cs ha
    obtain ⟨va, h1, vs, hz, rfl⟩ := opd_ok hf ha
    split at h
    · rename_i fs hfs
      split at h
      · rename_i fd hfd
        obtain ⟨hh, rfl⟩ := pur_eq h; replace h := hh; clear hh
        obtain ⟨v, hv, hrun⟩ := part_run (U := U) h hz
        exact aop_val hd (fun _ I a w hA => ⟨v, by simp [execOp, hA.frame.val h1, Instr.field, run_underlying hfs, hfd, asAgg, hrun], .val v⟩) (hK ρ _ _ (Env.le_refl ρ) hs hv)
      · cases h
    · cases h
  · cases h

theorem indexA_ok {t : TypeId} {x y : Operand} {r : SV} {st' : St} (h : indexAE P g st t x y = some (r, st')) (hd : Nat.blt d n = true) (hs : SOk P ρ st Hs) (hf : FrOk U ρ g fr) (hK : KOk U P ρ st' r d fr K) :
    AOp P J n ⟨some d, .indexAddr t x y, ty, ps, af, gd⟩ K Φ fr Hs := by
  unfold indexAE at h
  split at h
  · rename_i yv hy
    split at h
    · rename_i i hi
      obtain ⟨vy, h1, h2⟩ := opd_ok hf hy
      obtain ⟨k, rfl⟩ := idx_ok hi h2
      split at h
      · rename_i xv hx
        obtain ⟨vx, h3, h4⟩ := opd_ok hf hx
        unfold idxAt at h
        split at h
        · rename_i e ht
          split at h
          · rename_i s hsz
            split at h
            · rename_i id off len kk opn
              split at h
              · rename_i hlt
                cases h
                obtain ⟨bi, hbi, rfl, _⟩ := h4
                have hlt' : i < len := by simpa [Nat.blt_eq] using hlt
                refine aop_val hd (fun _ I a w hA => ⟨.pointer (some ⟨bi.b, off + i * s, none⟩), ?_, .val _⟩) (hK ρ _ _ (Env.le_refl ρ) hs ⟨bi, hbi, rfl⟩)
                simp [execOp, hA.frame.val h3, hA.frame.val h1, Instr.indexAt, run_underlying ht, asIntOf, hlt', size_of hsz, addr_add]
              · cases h
            · cases h
          · cases h
        · rename_i len e ht
          split at h
          · rename_i s hsz
            split at h
            · rename_i id off
              split at h
              · rename_i hlt
                cases h
                obtain ⟨bi, hbi, rfl⟩ := h4
                have hlt' : i < len := by simpa [Nat.blt_eq] using hlt
                refine aop_val hd (fun _ I a w hA => ⟨.pointer (some ⟨bi.b, off + i * s, none⟩), ?_, .val _⟩) (hK ρ _ _ (Env.le_refl ρ) hs ⟨bi, hbi, rfl⟩)
                simp [execOp, hA.frame.val h3, hA.frame.val h1, Instr.indexAt, Instr.sureAddr, run_underlying ht, asIntOf, hlt', size_of hsz, addr_add]
              · cases h
            · cases h
          · cases h
        · cases h
      · cases h
    · cases h
  · cases h

theorem index_ok {t : TypeId} {x y : Operand} {r : SV} {st' : St} (h : indexE P g st t x y = some (r, st')) (hd : Nat.blt d n = true) (hs : SOk P ρ st Hs) (hf : FrOk U ρ g fr) (hK : KOk U P ρ st' r d fr K) :
    AOp P J n ⟨some d, .index t x y, ty, ps, af, gd⟩ K Φ fr Hs := by
  unfold indexE at h
  split at h
  · rename_i yv hy
    split at h
    · rename_i i hi
      obtain ⟨vy, h1, h2⟩ := opd_ok hf hy
      obtain ⟨k, rfl⟩ := idx_ok hi h2
      split at h
      · rename_i xv hx
        obtain ⟨vx, h3, h4⟩ := opd_ok hf hx
        obtain ⟨hh, rfl⟩ := pur_eq h; replace h := hh; clear hh
        unfold idxVal at h
        split at h
        · rename_i s
          split at h
          · rename_i ht
            split at h
            · rename_i b hb
              cases h
              cases h4.1
              refine rIndexS ht hd h3 h1 (by omega) (b := b) ?_ (hK ρ _ _ (Env.le_refl ρ) hs (den_int _ _))
              have : s.data[i]? = some b := by simpa using hb
              rw [Int.toNat_natCast]
              exact this
            · cases h
          · cases h
        · rename_i cs
          obtain ⟨vs, hz, rfl⟩ := h4
          split at h
          · rename_i len e ht
            split at h
            · rename_i hlt
              split at h
              · rename_i s hsz
                have hlt' : i < len := by simpa [Nat.blt_eq] using hlt
                obtain ⟨v, hv, hrun⟩ := part_run (U := U) h hz
                exact aop_val hd (fun _ I a w hA => ⟨v, by simp [execOp, hA.frame.val h3, hA.frame.val h1, Instr.index, run_underlying ht, asIntOf, hlt', size_of hsz, hrun], .val v⟩) (hK ρ _ _ (Env.le_refl ρ) hs hv)
              · cases h
            · cases h
          · cases h
        · cases h
      · cases h
    · cases h
  · cases h

theorem opds_ok (hf : FrOk U ρ g fr) : ∀ {l : List Operand} {as : List SV}, opds g l = some as → ∃ vs : List Value, ogetl fr l = some (vs.map .val) ∧ Zip2 (denV U ρ) as vs
  | [], as, h => by cases h; exact ⟨[], rfl, .nil⟩
  | x :: l, as, h => by
    unfold opds at h
    split at h
    · rename_i a ha
      split at h
      · rename_i as' has
        cases h
        obtain ⟨v, h1, h2⟩ := opd_ok hf ha
        obtain ⟨vs, h3, h4⟩ := opds_ok hf has
        exact ⟨v :: vs, by simp [ogetl, h1, h3], .cons h2 h4⟩
      · cases h
    · cases h

end
end Go.Ev

namespace Go.Ev
open Go Go.Ab
section
variable {U : Nat → Value} {P : Program} {J : JD} {n : Nat} {Φ : APost} {fr : Fr} {Hs : List HProp} {K : Fr → List HProp → Prop} {ty : TypeId} {ps : String} {af : Array Edge} {gd : Option (Nat × Bool)} {d : Nat} {ρ : Env} {g : Get} {st : St}

theorem ones_ok : ∀ {as : List SV} {l : List SC} {vs : List Value}, ones as = some l → Zip2 (denV U ρ) as vs → Zip2 (den ρ) l vs
  | [], l, vs, h, hz => by cases h; cases hz; exact .nil
  | a :: as, l, vs, h, hz => by
    unfold ones at h
    split at h
    · rename_i he; cases he
    · rename_i c r he
      cases he
      split at h
      · rename_i l' hl
        cases h
        cases hz with
        | cons h0 ht => exact .cons h0 (ones_ok hl ht)
      · cases h
    · cases h
theorem leaves_ok : ∀ {l : List SC} {vs : List Value}, l.all leaf = true → Zip2 (den ρ) l vs → Zip2 (den1 ρ) l vs
  | [], [], _, _ => .nil
  | [], _ :: _, _, h => by cases h
  | _ :: _, [], _, h => by cases h
  | c :: l, v :: vs, h, .cons h0 ht => by
    simp only [List.all_cons, Bool.and_eq_true] at h
    exact .cons (by cases c <;> first | exact h0 | (simp [leaf] at h)) (leaves_ok h.2 ht)

theorem evals {I : Im} {a : Act} (h : FrRel I n fr a.tmps) : ∀ {l : List Operand} {vs : List Value}, ogetl fr l = some (vs.map .val) → l.map a.eval = vs
  | [], vs, hq => by cases vs <;> simp [ogetl] at hq ⊢
  | x :: l, vs, hq => by
    unfold ogetl at hq
    split at hq
    · rename_i c l' hc hl
      cases vs with
      | nil => simp at hq
      | cons v vs =>
        simp at hq
        obtain ⟨rfl, rfl⟩ := hq
        rw [List.map_cons, h.val hc, evals h hl]
    · cases hq

theorem makeFunc_ok {fn : Fn} {first captured : Array Operand} {r : SV} {st' : St} (h : makeFuncE g st fn first.toList captured.toList = some (r, st')) (hd : Nat.blt d n = true) (hs : SOk P ρ st Hs) (hf : FrOk U ρ g fr) (hK : KOk U P ρ st' r d fr K) :
    AOp P J n ⟨some d, .makeFunc fn first captured, ty, ps, af, gd⟩ K Φ fr Hs := by
  unfold makeFuncE at h
  split at h
  · rename_i a ha
    split at h
    · rename_i b hb
      split at h
      · rename_i a' ha'
        split at h
        · rename_i b' hb'
          split at h
          · rename_i hl
            cases h
            simp only [Bool.and_eq_true] at hl
            obtain ⟨va, h1, h2⟩ := opds_ok hf ha
            obtain ⟨vb, h3, h4⟩ := opds_ok hf hb
            refine aop_val hd (fun _ I a w hA => ⟨.func fn va.toArray vb.toArray, ?_, .val _⟩) (hK ρ _ _ (Env.le_refl ρ) hs ⟨va, vb, leaves_ok hl.1 (ones_ok ha' h2), leaves_ok hl.2 (ones_ok hb' h4), rfl⟩)
            have e1 : first.map a.eval = va.toArray := by rw [← evals hA.frame h1, ← List.map_toArray, Array.toArray_toList]
            have e2 : captured.map a.eval = vb.toArray := by rw [← evals hA.frame h3, ← List.map_toArray, Array.toArray_toList]
            simp [execOp, Instr.makeFunc, e1, e2]
          · cases h
        · cases h
      · cases h
    · cases h
  · cases h

theorem cst_okB {x : Value} {s : SV} (h : cst x = some s) : denB U ρ s x := by
  have := cst_ok (U := U) (ρ := ρ) h
  unfold cst at h
  split at h <;> split at h <;> cases h <;> exact this

theorem lookup_ok {t : TypeId} {x y : Operand} {ok : Bool} {r : SV} {st' : St} (h : lookupE P g st t x y ok = some (r, st')) (hd : Nat.blt d n = true) (hs : SOk P ρ st Hs) (hf : FrOk U ρ g fr) (hK : KOk U P ρ st' r d fr K) :
    AOp P J n ⟨some d, .lookup t x y ok, ty, ps, af, gd⟩ K Φ fr Hs := by
  unfold lookupE at h
  split at h
  · rename_i id hx
    obtain ⟨vx, h1, i, hi, rfl⟩ := opd_ok hf hx
    split at h
    · rename_i ck hg
      split at h
      · rename_i yv hy
        obtain ⟨vy, h2, h3⟩ := opd_ok hf hy
        split at h
        · rename_i kv hkv
          cases closed_ok hkv h3
          obtain ⟨k, Hs', hp, ho, _, _⟩ := hs.h.get hg
          obtain ⟨i', hi', rfl⟩ := ho
          rw [hi] at hi'; cases hi'
          unfold lookE at h
          split at h
          · rename_i key e ht
            split at h
            · rename_i u hu
              have hck := semPure_ok _ _ _ hu
              split at h
              · rename_i ii hii
                split at h
                · rename_i z hz
                  split at h
                  · rename_i sv hsv
                    split at h
                    · rename_i dk hdk
                      have hrun : ∀ (F : List HProp) (I : Im) (a : Act) (w : World), AState J I n fr ((pt i.b (.map [] ck) :: Hs') ++ F) a w → (Instr.lookup t (.map (some i.b)) vy ok).run P w = .ok (if ok then .tuple #[z, .bool false] else z) w := fun F I a w hA => by
                        obtain ⟨L, hL, hG⟩ := hA.sep
                        cases hL with
                        | cons h1 h2 =>
                          cases h1
                          obtain ⟨ents, he, hz0⟩ := hG.ob i.b (.map [] ck) (by simp)
                          have hents : ents = #[] := by
                            have : ents.toList = [] := by generalize ents.toList = l at hz0; cases hz0; rfl
                            simpa using this
                          subst hents
                          have hgo : (getObj i.b).run P w = .ok (.map #[] ck) w := by simp [getObj, Sem.run, he]
                          have hk := hck w
                          cases ok <;> simp [Instr.lookup, run_underlying ht, hgo, hk, Instr.findKey, Instr.findNow, run_underlying hdk, zeroValue, typeInfo, hii, hz]
                      refine aop_perm hp ?_
                      cases ok with
                      | true =>
                        cases h
                        refine aop_val hd (fun F I a w hA => ⟨_, ?_, .val _⟩) (hK ρ (.tuple #[z, .bool false]) _ (Env.le_refl ρ) (hs.perm hp) ⟨[z, .bool false], .cons (cst_okB hsv) (.cons ⟨rfl, rfl⟩ .nil), rfl⟩)
                        have := hrun F I a w hA
                        simp [execOp, hA.frame.val h1, hA.frame.val h2, this]
                      | false =>
                        cases h
                        refine aop_val hd (fun F I a w hA => ⟨_, ?_, .val _⟩) (hK ρ z _ (Env.le_refl ρ) (hs.perm hp) (cst_ok hsv))
                        have := hrun F I a w hA
                        simp [execOp, hA.frame.val h1, hA.frame.val h2, this]
                    · cases h
                  · cases h
                · cases h
              · cases h
            · cases h
          · cases h
        · cases h
      · cases h
    · cases h
  · cases h
end
end Go.Ev

namespace Go.Ev
open Go Go.Ab
section
variable {U : Nat → Value} {P : Program} {J : JD} {n : Nat} {Φ : APost} {fr : Fr} {Hs : List HProp} {K : Fr → List HProp → Prop} {ty : TypeId} {ps : String} {af : Array Edge} {gd : Option (Nat × Bool)} {d : Nat} {ρ : Env} {g : Get} {st : St}

theorem optIdx_ok (hf : FrOk U ρ g fr) {o : Option Operand} {dflt l : Nat} (h : optIdx g o dflt = some l) {I : Im} {a : Act} (hA : FrRel I n fr a.tmps) : (o.map a.eval = none ∧ l = dflt) ∨ ∃ k, o.map a.eval = some (.int k (l : Int)) := by
  cases o with
  | none => cases h; exact .inl ⟨rfl, rfl⟩
  | some y =>
    unfold optIdx at h
    split at h
    · rename_i he; cases he
    · rename_i y' he
      cases he
      split at h
      · rename_i v hv
        obtain ⟨u, h1, h2⟩ := opd_ok hf hv
        obtain ⟨k, rfl⟩ := idx_ok h h2
        exact .inr ⟨k, by rw [Option.map_some, hA.val h1]⟩
      · cases h

theorem bounds_ok (hf : FrOk U ρ g fr) {len cap cap' : Nat} {lo hi mx : Option Operand} {l h m : Nat} (hb : bounds g len cap lo hi mx = some (l, h, m)) (hcap : (mx = none ∧ cap ≤ cap') ∨ cap = cap') (isS : Bool) {I : Im} {a : Act} (hA : FrRel I n fr a.tmps) (w : World) :
    l ≤ h ∧ h ≤ m ∧ m ≤ cap ∧ (Instr.sliceBounds isS len cap' (lo.map a.eval) (hi.map a.eval) (mx.map a.eval)).run P w = .ok (l, h, if mx.isSome then m else cap') w ∧ (mx = none → m = cap) := by
  unfold bounds at hb
  split at hb
  · rename_i m' hm
    split at hb
    · cases hb
    · rename_i hsome
      split at hb
      · rename_i h' hh
        split at hb
        · rename_i l' hl
          split at hb
          · rename_i hc
            cases hb
            simp only [Bool.and_eq_true] at hc
            obtain ⟨⟨c1, c2⟩, c3⟩ := hc
            have c1 := Nat.le_of_ble_eq_true c1
            have c2 := Nat.le_of_ble_eq_true c2
            have c3 := Nat.le_of_ble_eq_true c3
            refine ⟨c1, c2, c3, ?_, fun e => by subst e; cases hm; rfl⟩
            have e1 := optIdx_ok hf hl hA
            have e2 := optIdx_ok hf hh hA
            have e3 := optIdx_ok hf hm hA
            cases mx with
            | none =>
              have hcc : cap ≤ cap' := by rcases hcap with ⟨_, h⟩ | h <;> omega
              cases hm
              rcases e1 with ⟨e1, rfl⟩ | ⟨k1, e1⟩ <;> rcases e2 with ⟨e2, rfl⟩ | ⟨k2, e2⟩ <;> rw [e1, e2] <;> simp [Instr.sliceBounds]
              · rw [Ab.run_sliceBound _ _ _ rfl _ _ (by omega)]; rfl
              · rw [Ab.run_sliceBound _ _ _ rfl _ _ (by omega)]; rfl
              · rw [Ab.run_sliceBound _ _ _ rfl _ _ (by omega)]
                simp only [Result.andThen_ok]
                rw [Ab.run_sliceBound _ _ _ rfl _ _ (by omega)]; rfl
            | some z =>
              have hcc : cap = cap' := by rcases hcap with ⟨h, _⟩ | h; cases h; exact h
              subst hcc
              cases hi with
              | none => simp at hsome
              | some hy =>
                rcases e3 with ⟨e3, _⟩ | ⟨k3, e3⟩
                · cases e3
                rcases e2 with ⟨e2, _⟩ | ⟨k2, e2⟩
                · cases e2
                rcases e1 with ⟨e1, rfl⟩ | ⟨k1, e1⟩ <;> rw [e1, e2, e3] <;> simp [Instr.sliceBounds]
                · rw [Ab.run_sliceBound _ _ _ rfl _ _ (by omega)]
                  simp only [Result.andThen_ok]
                  rw [Ab.run_sliceBound _ _ _ rfl _ _ (by omega)]; rfl
                · rw [Ab.run_sliceBound _ _ _ rfl _ _ (by omega)]
                  simp only [Result.andThen_ok]
                  rw [Ab.run_sliceBound _ _ _ rfl _ _ (by omega)]
                  simp only [Result.andThen_ok]
                  rw [Ab.run_sliceBound _ _ _ rfl _ _ (by omega)]; rfl
          · cases hb
        · cases hb
      · cases hb
  · cases hb

theorem bounds_le {len cap : Nat} {lo hi mx : Option Operand} {l h m : Nat} (hb : bounds g len cap lo hi mx = some (l, h, m)) : l ≤ h ∧ h ≤ m ∧ m ≤ cap ∧ (mx = none → m = cap) := by
  unfold bounds at hb
  split at hb
  · rename_i m' hm
    split at hb
    · cases hb
    · split at hb
      · split at hb
        · split at hb
          · rename_i hc
            cases hb
            simp only [Bool.and_eq_true] at hc
            exact ⟨Nat.le_of_ble_eq_true hc.1.1, Nat.le_of_ble_eq_true hc.1.2, Nat.le_of_ble_eq_true hc.2, fun e => by subst e; cases hm; rfl⟩
          · cases hb
        · cases hb
      · cases hb
  · cases hb

theorem slK_ok {size id off : Nat} {r : SV} {b : Option (Nat × Nat × Nat)} (h : slK size id off b = some r) : ∃ l hh m, b = some (l, hh, m) ∧ r = .one (.s id (if m = l then off else off + l * size) (hh - l) (m - l) false) := by
  unfold slK at h
  split at h
  · rename_i l hh m
    cases h
    refine ⟨l, hh, m, rfl, ?_⟩
    by_cases e : m = l
    · subst e; simp
    · have : Nat.beq m l = false := by rw [Bool.eq_false_iff]; exact fun e' => e (Nat.eq_of_beq_eq_true e')
      rw [this, if_neg e]
  · cases h

theorem slice_ok {t : TypeId} {x : Operand} {lo hi mx : Option Operand} {r : SV} {st' : St} (h : sliceE P g st t x lo hi mx = some (r, st')) (hd : Nat.blt d n = true) (hs : SOk P ρ st Hs) (hf : FrOk U ρ g fr) (hK : KOk U P ρ st' r d fr K) :
    AOp P J n ⟨some d, .slice t x lo hi mx, ty, ps, af, gd⟩ K Φ fr Hs := by
  unfold sliceE at h
  split at h
  · rename_i xv hx
    obtain ⟨vx, h1, h2⟩ := opd_ok hf hx
    obtain ⟨hh, rfl⟩ := pur_eq h; replace h := hh; clear hh
    have hK' : ∀ v, denV U ρ r v → K ((d, .val v) :: fr) Hs := fun v hv => hK ρ v Hs (Env.le_refl ρ) hs hv
    unfold slE at h
    split at h
    · rename_i e ht
      split at h
      · cases h
      · rename_i size hsz
        split at h
        · rename_i id off len k opn
          obtain ⟨i, hi', hv, hlen⟩ := h2
          subst hv
          split at h
          · split at h
            · cases h
            · -- open
              unfold slO at h
              split at h
              · rename_i l hh m hb
                simp only [if_true] at hlen
                split at h
                · rename_i hlt
                  cases h
                  have hlt' : l < len := by simpa [Nat.blt_eq] using hlt
                  obtain ⟨b1, b2, b3, b4⟩ := bounds_le hb
                  refine aop_val hd (c := .val (.slice (some ⟨i.b, off + l * size, none⟩) (hh - l) (i.cap - k - l))) (fun F I a w hA => ⟨_, ?_, .val _⟩) (hK' _ ⟨i, hi', by simp [Nat.sub_sub], by simp; omega⟩)
                  obtain ⟨c1, c2, c3, c4, c5⟩ := bounds_ok hf hb (.inl ⟨rfl, hlen⟩) true hA.frame w
                  have hne : ¬ i.cap - k = l := by omega
                  simp only [Option.isSome_none, Bool.false_eq_true, if_false, Option.map_none] at c4
                  simp [execOp, hA.frame.val h1, Instr.sliceAt, Instr.slice, run_underlying ht, size_of hsz, addr_add]
                  rw [c4]; simp [hne]
                · rename_i hlt
                  cases h
                  have hlt' : ¬ l < len := by
                    intro h; have : Nat.blt l len = true := by simpa [Nat.blt_eq] using h
                    rw [this] at hlt; cases hlt
                  refine aop_val hd (c := .val (.slice (some (if i.cap - k = l then ⟨i.b, off, none⟩ else ⟨i.b, off + l * size, none⟩)) 0 (i.cap - k - l))) (fun F I a w hA => ⟨_, ?_, .val _⟩) (hK' _ ⟨_, _, rfl⟩)
                  obtain ⟨b1, b2, b3, b4⟩ := bounds_le hb
                  obtain ⟨c1, c2, c3, c4, c5⟩ := bounds_ok hf hb (.inl ⟨rfl, hlen⟩) true hA.frame w
                  have := c5 rfl
                  have e1 : hh - l = 0 := by omega
                  simp only [Option.isSome_none, Bool.false_eq_true, if_false, Option.map_none] at c4
                  simp [execOp, hA.frame.val h1, Instr.sliceAt, Instr.slice, run_underlying ht, size_of hsz, addr_add]
                  rw [c4]; simp [e1]; split <;> rfl
              · cases h
          · -- known
            obtain ⟨l, hh, m, hb, rfl⟩ := slK_ok h
            simp only [Bool.false_eq_true, if_false] at hlen h1 ⊢
            refine aop_val hd (c := .val (.slice (some ⟨i.b, if m = l then off else off + l * size, none⟩) (hh - l) (m - l))) (fun F I a w hA => ⟨_, ?_, .val _⟩) ?_
            · obtain ⟨c1, c2, c3, c4, c5⟩ := bounds_ok hf hb (.inr rfl) true hA.frame w
              have hm : (if mx.isSome = true then m else k) = m := by
                cases mx with
                | none => simp; exact (c5 rfl).symm
                | some z => simp
              rw [hm] at c4
              simp [execOp, hA.frame.val h1, Instr.sliceAt, Instr.slice, run_underlying ht, size_of hsz, addr_add]
              rw [c4]; by_cases e : m = l <;> simp [e]
            · obtain ⟨b1, b2, b3, b4⟩ := bounds_le hb
              exact hK' _ ⟨i, hi', by simp, by simp; omega⟩
        · cases h2.1
          unfold slN at h
          split at h
          · rename_i b hb
            obtain ⟨l, hh, m⟩ := b
            cases h
            obtain ⟨b1, b2, b3, b4⟩ := bounds_le hb
            refine aop_val hd (c := .val (.slice none 0 0)) (fun F I a w hA => ⟨_, ?_, .val _⟩) (hK' _ ⟨rfl, rfl⟩)
            obtain ⟨c1, c2, c3, c4, c5⟩ := bounds_ok hf hb (.inr rfl) true hA.frame w
            have e1 : l = 0 := by omega
            have e2 : hh = 0 := by omega
            have e3 : m = 0 := by omega
            subst e1; subst e2; subst e3
            have e4 : (if mx.isSome = true then 0 else 0) = 0 := by split <;> rfl
            rw [e4] at c4
            simp [execOp, hA.frame.val h1, Instr.sliceAt, Instr.slice, run_underlying ht, size_of hsz]
            rw [c4]; simp
          · cases h
        · cases h
    · rename_i nn e ht
      split at h
      · cases h
      · rename_i size hsz
        split at h
        · rename_i id off
          obtain ⟨i, hi', rfl⟩ := h2
          obtain ⟨l, hh, m, hb, rfl⟩ := slK_ok h
          obtain ⟨b1, b2, b3, b4⟩ := bounds_le hb
          refine aop_val hd (c := .val (.slice (some ⟨i.b, if m = l then off else off + l * size, none⟩) (hh - l) (m - l))) (fun F I a w hA => ⟨_, ?_, .val _⟩) (hK' _ ⟨i, hi', by simp, by simp; omega⟩)
          obtain ⟨c1, c2, c3, c4, c5⟩ := bounds_ok hf hb (.inr rfl) false hA.frame w
          have hm : (if mx.isSome = true then m else nn) = m := by
            cases mx with
            | none => simp; exact (c5 rfl).symm
            | some z => simp
          rw [hm] at c4
          simp [execOp, hA.frame.val h1, Instr.sliceAt, Instr.sureAddr, run_underlying ht, size_of hsz, addr_add]
          rw [c4]; by_cases e : m = l <;> simp [e]
        · cases h
    · cases h
  · cases h
end
end Go.Ev

namespace Go.Ev
open Go Go.Ab
section
variable {U : Nat → Value} {P : Program} {J : JD} {n : Nat} {Φ : APost} {fr : Fr} {Hs : List HProp} {K : Fr → List HProp → Prop} {ty : TypeId} {ps : String} {af : Array Edge} {gd : Option (Nat × Bool)} {d : Nat} {ρ : Env} {g : Get} {st : St}

theorem fill_step {place : Nat → Option (Nat × Nat)} {cells : Array Value} {k off size : Nat} {v : Value} {rest : List (Nat × Value)} (hp : place k = some (off, size)) (hs : v.cells.size = size) (hl : off + size ≤ cells.size) :
    Instr.fill place cells ((k, v) :: rest) = Instr.fill place (setlV cells.toList off v.cells.toList).toArray rest := by
  generalize hR : Instr.fill place (setlV cells.toList off v.cells.toList).toArray rest = R
  unfold Instr.fill
  rw [hp]
  simp only
  rw [if_neg]
  · rw [← hR]
    congr 1
    have := foldl_setlV off v.cells.toList 0 cells
    rw [Nat.add_zero] at this
    rw [← this, ← Array.foldl_toList]
    simp
  · simp only [Bool.or_eq_true, decide_eq_true_eq, not_or]
    exact ⟨by simp [hs], by omega⟩

/-- What 'fill' makes of the parts that are told. -/
theorem fill_ok {part : Nat → Option (Nat × Nat)} (hf : FrOk U ρ g fr) {place : Nat → Option (Nat × Nat)} (hpl : ∀ k x, part k = some x → place k = some x) :
    ∀ (l : List (Nat × Operand)) (cs out : List SC) (vs : List Value), fillG part g l cs = some out → Zip2 (den ρ) cs vs →
      ∃ vs', Zip2 (den ρ) out vs' ∧ vs'.length = vs.length ∧ ∀ (I : Im) (a : Act), FrRel I n fr a.tmps → Instr.fill place vs.toArray (l.map fun x => (x.1, a.eval x.2)) = some vs'.toArray
  | [], cs, out, vs, h, hz => by
    cases h
    exact ⟨vs, hz, rfl, fun _ _ _ => rfl⟩
  | (k, x) :: r, cs, out, vs, h, hz => by
    unfold fillG at h
    split at h
    · rename_i off s hp
      split at h
      · rename_i sv hsv
        obtain ⟨v, e1, e2⟩ := opd_ok hf hsv
        split at h
        · rename_i ms hms
          have hzm := cellsOf_ok hms e2
          split at h
          · rename_i hc
            simp only [Bool.and_eq_true] at hc
            have c1 : ms.length = s := Nat.eq_of_beq_eq_true hc.1
            have c2 : off + s ≤ cs.length := Nat.le_of_ble_eq_true hc.2
            have hvl := zip_len hz
            have hml := zip_len hzm
            obtain ⟨vs', f2, f3, f1⟩ := fill_ok hf hpl r _ out (setlV vs off v.cells.toList) h (zip_setAt off hz hzm (by omega))
            refine ⟨vs', f2, by rw [f3, setlV_length], fun I a hA => ?_⟩
            rw [List.map_cons]
            simp only
            rw [hA.val e1, fill_step (hpl _ _ hp) (by simp at hml; omega) (by simp; omega)]
            exact f1 I a hA
          · cases h
        · cases h
      · cases h
    · cases h

theorem places_run : ∀ (fs : List Field), allSized P fs = true → ∃ pl : List (Nat × Nat), (∀ w, (fs.mapM fun f => do pure (f.offset, ← sizeOf f.type) : Sem (List (Nat × Nat))).run P w = .ok pl w) ∧ ∀ (k : Nat) (fd : Field) (s : Nat), fs[k]? = some fd → sizeT P fd.type = some s → pl[k]? = some (fd.offset, s)
  | [], _ => ⟨[], fun _ => rfl, fun k fd s h => by simp at h⟩
  | f :: fs, h => by
    unfold allSized at h
    split at h
    · rename_i s hs
      obtain ⟨pl, h1, h2⟩ := places_run fs h
      refine ⟨(f.offset, s) :: pl, fun w => ?_, fun k fd s' hk hs' => ?_⟩
      · simp only [List.mapM_cons, Sem.run_bind, size_of hs, Result.andThen_ok, Sem.run_pure]
        rw [h1]; rfl
      · cases k with
        | zero => simp at hk; subst hk; rw [hs] at hs'; cases hs'; rfl
        | succ k => simpa using h2 k fd s' (by simpa using hk) hs'
    · cases h

theorem build_ok {t : TypeId} {parts : Array (Nat × Operand)} {r : SV} {st' : St} (h : buildE P g st t parts.toList = some (r, st')) (hd : Nat.blt d n = true) (hs : SOk P ρ st Hs) (hf : FrOk U ρ g fr) (hK : KOk U P ρ st' r d fr K) :
    AOp P J n ⟨some d, .build t parts, ty, ps, af, gd⟩ K Φ fr Hs := by
  unfold buildE at h
  split at h
  · rename_i s z hz
    obtain ⟨zv, by_, hT, rfl, hall⟩ := zero_of hz
    split at h
    · rename_i hpt
      split at h
      · rename_i cs hc
        cases h
        -- the value does not hang on the run
        have hvals : ∃ vs : List Value, Zip2 (den ρ) cs vs ∧ ∀ (I : Im) (a : Act) (w : World), FrRel I n fr a.tmps → (Instr.build t (parts.map fun x => (x.1, a.eval x.2))).run P w = .ok (.agg vs.toArray) w := by
          unfold partsT at hpt
          split at hpt
          · rename_i fs hu
            obtain ⟨pl, p1, p2⟩ := places_run (P := P) fs.toList hpt
            obtain ⟨vs, f1, f2, f3⟩ := fill_ok (n := n) (part := partAt P t) (place := (pl.toArray[·]?)) hf (fun k x hx => by
              unfold partAt at hx
              rw [hu] at hx
              simp only at hx
              split at hx
              · rename_i fd hfd
                split at hx
                · rename_i s hs
                  cases hx
                  simpa using p2 k fd s (by simpa using hfd) hs
                · cases hx
              · cases hx) _ _ _ _ hc (zip_v hall)
            refine ⟨vs, f1, fun I a w hA => ?_⟩
            have p1' : (fs.mapM fun f => do pure (f.offset, ← sizeOf f.type) : Sem (Array (Nat × Nat))).run P w = .ok pl.toArray w := by
              rw [← Array.toArray_toList (xs := fs), List.mapM_toArray, map_eq_pure_bind, Sem.run_bind, p1]
              rfl
            have f3' := f3 I a hA
            simp only [Instr.build, Sem.run_bind, hT.zero, Result.andThen_ok, run_underlying hu, p1', Array.toList_map]
            simp only [Array.toArray_toList] at f3'
            rw [f3']
            rfl
          · rename_i nn e hu
            split at hpt
            · rename_i s hs
              obtain ⟨vs, f1, f2, f3⟩ := fill_ok (n := n) (part := partAt P t) (place := fun i => some (i * s, s)) hf (fun k x hx => by
                unfold partAt at hx
                rw [hu] at hx
                simp only [hs] at hx
                exact hx) _ _ _ _ hc (zip_v hall)
              refine ⟨vs, f1, fun I a w hA => ?_⟩
              have f3' := f3 I a hA
              simp only [Instr.build, Sem.run_bind, hT.zero, Result.andThen_ok, run_underlying hu, size_of hs, Array.toList_map]
              simp only [Array.toArray_toList] at f3'
              rw [f3']
              rfl
            · cases hpt
          · cases hpt
        obtain ⟨vs, h1, h2⟩ := hvals
        exact aop_val hd (fun F I a w hA => ⟨.agg vs.toArray, by simp [execOp, h2 I a w hA.frame], .val _⟩) (hK ρ _ _ (Env.le_refl ρ) hs ⟨vs, h1, rfl⟩)
      · cases h
    · cases h
  · cases h

theorem rep_length {α : Type} (l : List α) : ∀ k, (rep k l).length = k * l.length
  | 0 => by simp [rep]
  | k + 1 => by simp [rep, rep_length l k, Nat.add_mul, Nat.add_comm]
theorem rep_get {α : Type} (l : List α) : ∀ (k i : Nat), i < k * l.length → (rep k l)[i]? = l[i % l.length]?
  | 0, i, h => by simp at h
  | k + 1, i, h => by
    unfold rep
    by_cases hi : i < l.length
    · rw [List.getElem?_append_left hi, Nat.mod_eq_of_lt hi]
    · rw [List.getElem?_append_right (by omega), rep_get l k (i - l.length) (by rw [Nat.add_mul] at h; omega)]
      congr 1
      rw [← Nat.mod_eq_sub_mod (by omega)]
theorem rep_map {α β : Type} (f : α → β) (l : List α) : ∀ k, rep k (l.map f) = (rep k l).map f
  | 0 => rfl
  | k + 1 => by simp [rep, rep_map f l k]
theorem rep_zero (z : Array Value) (len : Nat) : ((Array.range (len * z.size)).map fun x => z[x % z.size]!).toList = rep len z.toList := by
  apply List.ext_getElem?
  intro i
  by_cases h : i < len * z.size
  · rw [rep_get _ _ _ (by simpa using h)]
    have hp : 0 < z.size := by
      rcases Nat.eq_zero_or_pos z.size with e | e
      · rw [e] at h; simp at h
      · exact e
    have hm := Nat.mod_lt i hp
    simp [h, hm]
  · rw [List.getElem?_eq_none (by simpa using h), List.getElem?_eq_none (by rw [rep_length]; simpa using h)]
theorem rep_all {α : Type} (p : α → Bool) (l : List α) (h : l.all p = true) : ∀ k, (rep k l).all p = true
  | 0 => rfl
  | k + 1 => by rw [rep, List.all_append, h, rep_all p l h k]; rfl

theorem buildS_ok {t : TypeId} {len : Nat} {parts : Array (Nat × Operand)} {r : SV} {st' : St} (h : buildSE P g st t len parts.toList = some (r, st')) (hd : Nat.blt d n = true) (hs : SOk P ρ st Hs) (hf : FrOk U ρ g fr) (hK : KOk U P ρ st' r d fr K) :
    AOp P J n ⟨some d, .buildSlice t len parts, ty, ps, af, gd⟩ K Φ fr Hs := by
  unfold buildSE at h
  split at h
  · rename_i e ht
    split at h
    · rename_i size z hz
      obtain ⟨zv, by_, hT, rfl, hall⟩ := zero_of hz
      split at h
      · rename_i hc
        simp only [Bool.and_eq_true] at hc
        have hsz : zv.cells.size = size := by simpa using Nat.eq_of_beq_eq_true hc.1
        have hle := Nat.le_of_ble_eq_true hc.2
        split at h
        · rename_i cs hcs
          cases h
          have hz0 : Zip2 (den ρ) (rep len (zv.cells.toList.map .v)) (rep len zv.cells.toList) := by
            rw [rep_map]; exact zip_v (rep_all _ _ hall _)
          obtain ⟨vs, f1, f2, f3⟩ := fill_ok (n := n) (part := fun k => some (k * size, size)) (place := fun i => some (i * size, size)) hf (fun k x hx => hx) _ _ _ _ hcs hz0
          have hvl : vs.length = len * size := by rw [f2, rep_length]; simp [hsz]
          refine aop_of hd (fun b => .val (.slice (some ⟨b, 0, none⟩) len len)) (fun b => pt b (.cells (vs.map .val) e) :: Hs) (fun F I a w hA => ?_) fun b => ?_
          · refine ⟨w.heap.size, I, .slice (some ⟨w.heap.size, 0, none⟩) len len, { w with heap := w.heap.push (.cells vs.toArray e) }, Im.le_refl I, ?_, ?_, .val _⟩
            · have f3' := f3 I a hA.frame
              have hn24 : ¬ len * size > 2 ^ 24 := by omega
              rw [← rep_zero] at f3'
              by_cases h0 : len * size = 0
              · have e0 : (Array.range (len * size)).map (fun x => (#[] : Array Value)[x % (#[] : Array Value).size]!) = #[] := by rw [h0]; simp
                have e1 : ((Array.range (len * zv.cells.size)).map fun x => zv.cells[x % zv.cells.size]!).toList.toArray = #[] := by rw [hsz, h0]; simp
                rw [e1] at f3'
                simp only [execOp, Instr.buildSlice, Sem.run_bind, run_underlying ht, Result.andThen_ok, hT.size, hn24, if_false]
                rw [if_pos h0]
                simp only [Sem.run_bind, Sem.run_pure, Result.andThen_ok, e0, Array.toList_map, f3']
                simp [newRow]
              · rw [hsz, Array.toArray_toList] at f3'
                simp only [execOp, Instr.buildSlice, Sem.run_bind, run_underlying ht, Result.andThen_ok, hT.size, hn24, if_false]
                rw [if_neg h0]
                simp only [Sem.run_bind, hT.zero, Sem.run_pure, Result.andThen_ok, hsz, Array.toList_map, f3']
                simp [newRow]
            · exact hA.sep.push (.cells vs.toArray e) _ _ rfl fun hI => ⟨vs.toArray, by simp, by simp, fun i v c hv hc => by
                rw [List.getElem?_map] at hc
                simp at hv hc
                obtain ⟨_, h3, rfl⟩ := hc
                rw [hv] at h3; cases h3; exact .val _, hI⟩
          · obtain ⟨ρ', hle', hat, hs'⟩ := hs.new (b := b) (t := e) f1
            exact hK ρ' _ _ hle' hs' ⟨_, hat, by simp, by simp⟩
        · cases h
      · cases h
    · cases h
  · cases h
end
end Go.Ev

namespace Go.Ev
open Go Go.Ab
section
variable {U : Nat → Value} {P : Program} {J : JD} {n : Nat} {Φ : APost} {fr : Fr} {Hs : List HProp} {K : Fr → List HProp → Prop} {ty : TypeId} {ps : String} {af : Array Edge} {gd : Option (Nat × Bool)} {d : Nat} {ρ : Env} {g : Get} {st : St}

theorem aop_ex {op : Op} (hd : Nat.blt d n = true) (h : ∀ F I a w, AState J I n fr (Hs ++ F) a w → ∃ v w' Hs', (execOp a.eval ⟨some d, op, ty, ps, af, gd⟩).run P w = .ok (.value v) w' ∧ SepG I (Hs' ++ F) w' ∧ K ((d, .val v) :: fr) Hs') :
    AOp P J n ⟨some d, op, ty, ps, af, gd⟩ K Φ fr Hs := by
  intro F I a w hs next Q hn _
  obtain ⟨v, w', Hs', hrun, hsep, hk⟩ := h F I a w hs
  unfold Oper.wp
  rw [hrun, Oper.upon_value]
  refine hn I _ _ _ _ (Im.le_refl I) ⟨v, rfl⟩ ⟨hs.le, hsep, ?_, ?_⟩ hk
  · exact hs.frame.set hd (.val v)
  · simpa [Act.put] using hs.nod

theorem infoT_ok {e : TypeId} {size by_ : Nat} (h : infoT P e = some (size, by_)) : ∃ i z, P.info? e = some i ∧ i.size = size ∧ i.bytes = by_ ∧ i.zero = some z ∧ z.cells.size = size := by
  unfold infoT at h
  split at h
  · rename_i i hi
    split at h
    · rename_i z hz
      split at h
      · rename_i hc
        cases h
        exact ⟨i, z, hi, rfl, rfl, hz, Nat.eq_of_beq_eq_true hc⟩
      · cases h
    · cases h
  · cases h

/-- What is shown by a slice: its cells, in any world in which the chunks hold. -/
theorem sliceCells_ok {size m : Nat} {x : SV} {l : List SC} {v : Value} (h : sliceCells st size x = some (m, l)) (hs : SOk P ρ st Hs) (hv : denV U ρ x v) :
    ∃ vs base cap, v = .slice base m cap ∧ m ≤ cap ∧ Zip2 (den ρ) l vs ∧ vs.length = m * size ∧ ∀ (I : Im) (F : List HProp) (w : World), SepG I (Hs ++ F) w → (Builtin.firstCells size m v).run P w = .ok vs.toArray w := by
  have empty : ∀ (I : Im) (F : List HProp) (w : World) (b : Option Addr) (c : Nat), SepG I (Hs ++ F) w → (Builtin.firstCells size 0 (.slice b 0 c)).run P w = .ok #[] w := fun I F w b c _ => by
    cases b with
    | none => simp [Builtin.firstCells]
    | some a =>
      have := run_loadCells_list (P := P) (w := w) a [] fun j v hv => by simp at hv
      simp only [List.length_nil] at this
      simp [Builtin.firstCells, this]
  unfold sliceCells at h
  split at h
  · cases h; cases hv.1
    exact ⟨[], none, 0, rfl, Nat.le_refl _, .nil, by simp, fun I F w hw => empty I F w none 0 hw⟩
  · cases h
    obtain ⟨a, c, rfl⟩ := hv
    exact ⟨[], some a, c, rfl, Nat.zero_le _, .nil, by simp, fun I F w hw => empty I F w _ _ hw⟩
  · rename_i id off len k opn
    obtain ⟨i, hi, rfl, hle⟩ := hv
    split at h
    · cases h
      exact ⟨[], _, _, rfl, hle, .nil, by simp, fun I F w hw => empty I F w _ _ hw⟩
    · rename_i len'
      split at h
      · rename_i b cs t hg
        split at h
        · rename_i hc
          cases h
          have hc' := Nat.le_of_ble_eq_true hc
          obtain ⟨kk, Hs', hp, ho, _, _⟩ := hs.h.get hg
          obtain ⟨i', vs, tl, hi', hz, rfl, _⟩ := cells_chunk ho
          rw [hi] at hi'; cases hi'
          have hvl := zip_len hz
          have hlen : ((vs.drop off).take ((len' + 1) * size)).length = (len' + 1) * size := by rw [List.length_take, List.length_drop]; omega
          refine ⟨(vs.drop off).take ((len' + 1) * size), _, _, rfl, hle, zip_take (zip_drop hz off) _, hlen, fun I F w hw => ?_⟩
          have hw' : SepG I (pt i.b (.cells ((vs ++ tl).map .val) t) :: (Hs' ++ F)) w := HSub.perm (hp.append_right F) I w hw
          have hl := run_loadCells_list (P := P) (w := w) ⟨i.b, off, none⟩ ((vs.drop off).take ((len' + 1) * size)) fun j v hv => by
            rw [addr_add]
            refine sep_get hw' ?_
            rw [List.getElem?_take] at hv
            split at hv
            · rw [List.getElem?_drop] at hv
              rw [List.getElem?_append_left (lt_of_get hv)]; exact hv
            · cases hv
          rw [hlen] at hl
          simp [Builtin.firstCells, hl]
        · cases h
      · cases h
  · cases h

/-- An append that makes a new block. -/
theorem grow_run {e t : TypeId} {size by_ sLen sCap m : Nat} {bs base : Option Addr} {cap : Nat} {old nv : List Value} {i : TypeInfo} {z : Value} (ht : P.underlying t = some (.slice e)) (hi : P.info? e = some i) (h1 : i.size = size) (h2 : i.bytes = by_) (h3 : i.zero = some z) (h4 : z.cells.size = size)
    (hlt : sCap < sLen + m) (hfit : fits (sLen + m) by_ = true) (hol : old.length = sLen * size) (hnl : nv.length = m * size) {w : World}
    (hold : (Builtin.firstCells size sLen (.slice bs sLen sCap)).run P w.drew = .ok old.toArray w.drew) (hnew : (Builtin.firstCells size m (.slice base m cap)).run P w.drew = .ok nv.toArray w.drew) :
    ∃ newCap tl w', (Builtin.append_ #[t, t] ty #[.slice bs sLen sCap, .slice base m cap]).run P w = .ok (.slice (some ⟨w.heap.size, 0, none⟩) (sLen + m) newCap) w' ∧ (w'.heap = w.heap.push (.cells (old ++ nv ++ tl).toArray e) ∧ w'.os = w.os ∧ w'.output = w.output) ∧ sLen + m ≤ newCap ∧ (old ++ nv ++ tl).length = newCap * size := by
  unfold fits at hfit
  simp only [Bool.and_eq_true] at hfit
  have hf1 := Nat.le_of_ble_eq_true hfit.1
  have hf2 := Nat.le_of_ble_eq_true hfit.2
  have hfit := growslice_fits hlt hf2
  let newCap := (sLen + m) + w.tape w.drawn (.appendCap (sLen + m) sCap e) % (9223372036854775808 - (sLen + m))
  let rest := Builtin.zeroCells z.cells (newCap - (sLen + m))
  have hrs : rest.size = (newCap - (sLen + m)) * size := by simp [rest, Builtin.zeroCells, h4]
  obtain ⟨cells, hcells⟩ : ∃ cells : Array Value, cells = old.toArray ++ nv.toArray ++ rest := ⟨_, rfl⟩
  refine ⟨newCap, rest.toList, { w with heap := w.heap.push (.cells cells e), drawn := w.drawn + 1 }, ?_, ?_, by simp only [newCap]; omega, ?_⟩
  · have hM : IntKind.i64.max = 9223372036854775807 := by decide
    have hnle : ¬ sLen + m ≤ sCap := by omega
    have hmaxI : ¬ ((9223372036854775807 : Int) < ((sLen : Int) + (m : Int))) := by omega
    have e1 : newCap - (sLen + m) = w.tape w.drawn (Question.appendCap (sLen + m) sCap e) % (9223372036854775808 - (sLen + m)) := by simp only [newCap]; omega
    simp [Builtin.append_, run_underlying ht, sizeOf, typeInfo, hi, h1, h2, Builtin.lenOf, hnle, Nat.not_lt.2 hfit, Question.forced, Question.cut, hold, hnew, zeroValue, h3, newRow, hM, hmaxI]
    refine ⟨rfl, ?_⟩
    rw [hcells]
    simp only [rest, e1, Array.append_assoc]
    rfl
  · have : cells = (old ++ nv ++ rest.toList).toArray := by rw [hcells]; simp
    rw [this]
    exact ⟨rfl, rfl, rfl⟩
  · rw [List.length_append, List.length_append, hol, hnl]
    simp only [Array.length_toList, hrs]
    rw [← Nat.add_mul, ← Nat.add_mul]
    congr 1
    simp only [newCap]; omega
end
end Go.Ev

namespace Go.Ev
open Go Go.Ab
section
variable {U : Nat → Value} {P : Program} {J : JD} {n : Nat} {Φ : APost} {fr : Fr} {Hs : List HProp} {K : Fr → List HProp → Prop} {ty : TypeId} {ps : String} {af : Array Edge} {gd : Option (Nat × Bool)} {d : Nat} {ρ : Env} {g : Get} {st : St}

theorem SOk.open_ {cs : List SC} {vs tl : List Value} {t : TypeId} {b cap size : Nat} (hs : SOk P ρ st Hs) (hz : Zip2 (den ρ) cs vs) (hsz : sizeT P t = some size) (hl : (vs ++ tl).length = cap * size) :
    ∃ ρ', ρ.le ρ' ∧ ρ' st.nx = some ⟨b, cap⟩ ∧ SOk P ρ' (Ev.put st (.cells true cs t)) (pt b (.cells ((vs ++ tl).map .val) t) :: Hs) := by
  have hle : ρ.le (ρ.upd st.nx ⟨b, cap⟩) := Env.upd_le (hs.nx _ (Nat.le_refl _))
  exact ⟨ρ.upd st.nx ⟨b, cap⟩, hle, Env.upd_at, hs.put ⟨b, cap⟩ (.cells true cs t) _ ⟨⟨b, cap⟩, vs, tl, size, Env.upd_at, hz.imp fun _ _ => den.mono hle, hsz, hl, rfl⟩⟩

theorem push_vals {I : Im} {F : List HProp} {w w' : World} {vs : List Value} {e : TypeId} (h : SepG I F w) (hw : w'.heap = w.heap.push (.cells vs.toArray e) ∧ w'.os = w.os ∧ w'.output = w.output) : SepG I (pt w.heap.size (.cells (vs.map .val) e) :: F) w' :=
  h.push (.cells vs.toArray e) _ _ hw.1 (fun hI => ⟨vs.toArray, by rw [hw.1]; simp, by simp, fun i v c hv hc => by
    rw [List.getElem?_map] at hc
    simp at hv hc
    obtain ⟨_, h3, rfl⟩ := hc
    rw [hv] at h3; cases h3; exact .val _, hI⟩) hw.2

theorem zipApp {l m : List SC} {a b : List Value} (h : Zip2 (den ρ) l a) (h' : Zip2 (den ρ) m b) : Zip2 (den ρ) (l ++ m) (a ++ b) := zip_append h h'

theorem drew_sep {I : Im} {F : List HProp} {w : World} (h : SepG I F w) : SepG I F w.drew := h.heap fun b _ => rfl

/-- The run of an append, told by its own two slices. -/
theorem app_exec {x y : Operand} {t : TypeId} {a : Act} {w w' : World} {vx vy v : Value} {hx : a.eval x = vx} {hy : a.eval y = vy} (h : (Builtin.append_ #[t, t] ty #[vx, vy]).run P w = .ok v w') :
    (execOp a.eval ⟨some d, .call ⟨.builtin .append, #[x, y], #[t, t]⟩, ty, ps, af, gd⟩).run P w = .ok (.value v) w' := by
  simp [execOp, resolve, invoke, builtin, hx, hy, h]

theorem append_ok {x y : Operand} {t t' : TypeId} {xv yv r : SV} {st' : St} (h : appB P st [t, t'] xv yv = some (r, st')) (hd : Nat.blt d n = true) (hs : SOk P ρ st Hs) {vx vy : Value} (hx : oget fr x = some (.val vx)) (hvx : denV U ρ xv vx) (hy : oget fr y = some (.val vy)) (hvy : denV U ρ yv vy)
    (hK : KOk U P ρ st' r d fr K) : AOp P J n ⟨some d, .call ⟨.builtin .append, #[x, y], #[t, t']⟩, ty, ps, af, gd⟩ K Φ fr Hs := by
  unfold appB at h
  split at h
  · rename_i t1 t2 he
    cases he
    split at h
    · rename_i htt
      have := Nat.eq_of_beq_eq_true htt; subst this
      split at h
      · rename_i e ht
        unfold appE at h
        split at h
        · cases h
        · rename_i size by_ hinf
          obtain ⟨i, z, hi, h1, h2, h3, h4⟩ := infoT_ok hinf
          split at h
          · cases h
          · rename_i m ys hys
            obtain ⟨nv, base, cap, rfl, hmc, hzn, hnl, hnrun⟩ := sliceCells_ok (U := U) hys hs hvy
            split at h
            · -- nothing
              split at h
              · rename_i hsl
                cases h
                have hb : ∃ bs l c, vx = .slice bs l c ∧ l ≤ c := by
                  unfold isSl at hsl
                  split at hsl
                  · cases hvx.1; exact ⟨none, 0, 0, rfl, Nat.le_refl _⟩
                  · obtain ⟨a, c, rfl⟩ := hvx; exact ⟨_, 0, c, rfl, Nat.zero_le _⟩
                  · obtain ⟨j, _, rfl, hle⟩ := hvx; exact ⟨_, _, _, rfl, hle⟩
                  · cases hsl
                obtain ⟨bs, l, c, rfl, hlc⟩ := hb
                refine aop_val hd (c := .val (.slice bs l c)) (fun F I a w hA => ⟨_, app_exec (hx := hA.frame.val hx) (hy := hA.frame.val hy) ?_, .val _⟩) (hK ρ _ _ (Env.le_refl ρ) hs hvx)
                have hr := hnrun I F w hA.sep
                have hnv : nv = [] := List.eq_nil_of_length_eq_zero (by simpa using hnl)
                subst hnv
                cases bs with
                | none => simp [Builtin.append_, run_underlying ht, sizeOf, typeInfo, hi, Builtin.lenOf, hlc, h1, hr]
                | some ad => simp [Builtin.append_, run_underlying ht, sizeOf, typeInfo, hi, Builtin.lenOf, hlc, h1, hr, storeCells]
              · cases h
            · rename_i m0
              replace hnl : nv.length = (m0 + 1) * size := hnl
              have hszT : sizeT P e = some size := by unfold sizeT; rw [hi]; simp [h1]
              unfold appOnto at h
              split at h
              · -- nil
                cases hvx.1
                split at h
                · rename_i hft
                  unfold appNew at h
                  cases h
                  refine aop_ex hd fun F I a w hA => ?_
                  obtain ⟨nc, tl, w', r1, r2, r3, r4⟩ := grow_run (P := P) (ty := ty) (bs := none) (sLen := 0) (sCap := 0) (old := []) ht hi h1 h2 h3 h4 (by omega) (by simpa using hft) (by simp) hnl (w := w) (by simp [Builtin.firstCells]) (hnrun I F _ (drew_sep hA.sep))
                  obtain ⟨ρ', hle, hat, hs'⟩ := hs.open_ (b := w.heap.size) (cap := nc) (tl := tl) hzn hszT (by simpa using r4)
                  refine ⟨_, w', _, app_exec (hx := hA.frame.val hx) (hy := hA.frame.val hy) r1, ?_, hK ρ' _ _ hle hs' ⟨_, hat, by simp, by simpa using r3⟩⟩
                  have := push_vals hA.sep r2
                  simpa using this
                · cases h
              · rename_i id off len k opn
                split at h
                · cases h
                · rename_i hft
                  split at h
                  · -- full
                    split at h
                    · rename_i hlk
                      have := Nat.eq_of_beq_eq_true hlk; subst this
                      split at h
                      · rename_i m1 xs hxs
                        unfold appNew at h
                        cases h
                        obtain ⟨ov, bs, cp, hvx', hle', hzo, hol, horun⟩ := sliceCells_ok (U := U) hxs hs hvx
                        obtain ⟨j, hj, hvx2, _⟩ := hvx
                        simp only [Bool.false_eq_true, if_false] at hvx2
                        rw [hvx2] at hvx'
                        cases hvx'
                        subst hvx2
                        refine aop_ex hd fun F I a w hA => ?_
                        obtain ⟨nc, tl, w', r1, r2, r3, r4⟩ := grow_run (P := P) (ty := ty) ht hi h1 h2 h3 h4 (by omega) hft hol hnl (w := w) (horun I F _ (drew_sep hA.sep)) (hnrun I F _ (drew_sep hA.sep))
                        obtain ⟨ρ', hle, hat, hs'⟩ := hs.open_ (b := w.heap.size) (cap := nc) (tl := tl) (zipApp hzo hzn) hszT r4
                        exact ⟨_, w', _, app_exec (hx := hA.frame.val hx) (hy := hA.frame.val hy) r1, push_vals hA.sep r2, hK ρ' _ _ hle hs' ⟨_, hat, by simp, by simpa using r3⟩⟩
                      · cases h
                    · cases h
                  · split at h
                    · split at h
                      · -- open
                        unfold appOpen at h
                        split at h
                        · rename_i cs tt hg
                          split at h
                          · rename_i hte
                            have := Nat.eq_of_beq_eq_true hte; subst this
                            split at h
                            · rename_i hcl
                              have hcl' := Nat.eq_of_beq_eq_true hcl
                              unfold appNew at h
                              cases h
                              obtain ⟨kk, Hs', hp, ho, _, hdrop⟩ := hs.h.get hg
                              obtain ⟨bi, vs, tl, sz, hbi, hz, hsz', hlen, rfl⟩ := ho
                              rw [hszT] at hsz'; cases hsz'
                              obtain ⟨j, hj, hvx2, hlc⟩ := hvx
                              rw [hbi] at hj; cases hj
                              simp only [if_true, Nat.sub_zero] at hvx2 hlc
                              subst hvx2
                              have hvl := zip_len hz
                              refine aop_perm hp (aop_ex hd fun F I a w hA => ?_)
                              have hA' : SepG I (Hs ++ F) w := HSub.perm (hp.symm.append_right F) I w hA.sep
                              have hs0 : SOk P ρ ⟨Tr.set 40 st.H id none, st.nx⟩ Hs' := ⟨hdrop, hs.nx⟩
                              by_cases hroom : len + (m0 + 1) ≤ bi.cap
                              · -- in place
                                have hcap : (len + (m0 + 1)) * size ≤ bi.cap * size := Nat.mul_le_mul_right _ hroom
                                rw [Nat.add_mul] at hcap
                                obtain ⟨w', s1, s2⟩ := run_storeCells (P := P) nv (nv.map .val) ((vs ++ tl).map .val) (len * size) 0 w (zip_vals hzn) (by simp at hlen ⊢; omega) hA.sep
                                rw [Nat.add_zero, setl_val] at s2
                                have hcells : setlV (vs ++ tl) (len * size) nv = (vs ++ nv) ++ tl.drop nv.length := by
                                  apply List.ext_getElem?
                                  intro q
                                  rw [setlV_get]
                                  simp at hlen
                                  by_cases c1 : q < vs.length
                                  · rw [if_neg (by omega), List.append_assoc, List.getElem?_append_left c1, List.getElem?_append_left c1]
                                  · by_cases c2 : q < vs.length + nv.length
                                    · rw [if_pos (by simp; omega), List.append_assoc, List.getElem?_append_right (by omega), List.getElem?_append_left (by omega)]
                                      congr 1; omega
                                    · rw [if_neg (by omega), List.getElem?_append_right (by omega), List.getElem?_append_right (by simp; omega), List.getElem?_drop]
                                      congr 1; simp; omega
                                rw [hcells] at s2
                                obtain ⟨ρ', hle, hat, hs'⟩ := hs0.open_ (b := bi.b) (cap := bi.cap) (tl := tl.drop nv.length) (zipApp hz hzn) hszT (by simp at hlen ⊢; omega)
                                refine ⟨.slice (some ⟨bi.b, 0, none⟩) (len + (m0 + 1)) bi.cap, w', _, app_exec (hx := hA.frame.val hx) (hy := hA.frame.val hy) ?_, s2, hK ρ' _ _ hle hs' ⟨_, hat, by simp, by simpa using hroom⟩⟩
                                have hr := hnrun I F w hA'
                                simp [Builtin.append_, run_underlying ht, sizeOf, typeInfo, hi, h1, Builtin.lenOf, hroom, hr, addr_add, s1]
                              · -- it grows
                                have hold : (Builtin.firstCells size len (.slice (some ⟨bi.b, 0, none⟩) len bi.cap)).run P w.drew = .ok vs.toArray w.drew := by
                                  have hl := run_loadCells_list (P := P) (w := w.drew) ⟨bi.b, 0, none⟩ vs fun j v hv => by
                                    rw [addr_add]
                                    refine sep_get (drew_sep hA.sep) ?_
                                    rw [Nat.zero_add, List.getElem?_append_left (lt_of_get hv)]; exact hv
                                  rw [show vs.length = len * size by omega] at hl
                                  simp [Builtin.firstCells, hl]
                                obtain ⟨nc, tl', w', r1, r2, r3, r4⟩ := grow_run (P := P) (ty := ty) ht hi h1 h2 h3 h4 (by omega) hft (by omega) hnl (w := w) hold (hnrun I F _ (drew_sep hA'))
                                obtain ⟨ρ', hle, hat, hs'⟩ := hs0.open_ (b := w.heap.size) (cap := nc) (tl := tl') (zipApp hz hzn) hszT r4
                                exact ⟨_, w', _, app_exec (hx := hA.frame.val hx) (hy := hA.frame.val hy) r1, push_vals (HSub.drop _ _ I w hA.sep) r2, hK ρ' _ _ hle hs' ⟨_, hat, by simp, by simpa using r3⟩⟩
                            · cases h
                          · cases h
                        · cases h
                      · cases h
                    · cases h
              · cases h
      · cases h
    · cases h
  · rename_i hne; exact (hne _ _ rfl).elim
end
end Go.Ev

namespace Go.Ev
open Go Go.Ab
section
variable {U : Nat → Value} {P : Program} {J : JD} {n : Nat} {Φ : APost} {fr : Fr} {Hs : List HProp} {K : Fr → List HProp → Prop} {ty : TypeId} {ps : String} {af : Array Edge} {gd : Option (Nat × Bool)} {d : Nat} {ρ : Env} {g : Get} {st : St}

theorem rCallVN {f : FuncId} {x : Operand} {first captured : Array Value} {args : Array Operand} {ats : Array TypeId} {as as' : List AV} {own Hs0 : List HProp} {R : AV → List HProp → Prop}
    (hx : oget fr x = some (.val (.func (.func f) first captured))) (hc : ACalls P f as' own R)
    (ha : ogetl fr args.toList = some as) (hsub : Subs (first.toList.map .val ++ as ++ captured.toList.map .val) as') (hH : Hs0 = own ++ Hs) (hK : ∀ a own', R a own' → K fr (own' ++ Hs)) :
    AOp P J n ⟨none, .call ⟨.value x, args, ats⟩, ty, ps, af, gd⟩ K Φ fr Hs0 := by
  subst hH
  intro F I a w hs next Q hn _
  unfold Oper.wp
  have hv := hs.frame.val hx
  have hrun : (execOp a.eval ⟨none, .call ⟨.value x, args, ats⟩, ty, ps, af, gd⟩).run P w = .ok (.enter f (first ++ args.map a.eval ++ captured)) w := by
    obtain ⟨fn, h1, h2, h3⟩ := hc.1
    have h2' : (fn.name = "runtime.NumGoroutine") = False := by simpa using h2
    have h3' : (fn.body = none) = False := by cases e : fn.body <;> simp_all
    simp [execOp, resolve, invoke, callFunc, Deferred.ofValue, hv, h1, h2', h3']
  rw [hrun, Oper.upon_enter]
  have hval : ∀ l : List Value, Zip2 (Rel I) l (l.map .val) := fun l => by
    induction l with
    | nil => exact .nil
    | cons v l ih => exact .cons (.val v) ih
  have hz := zip_sub (zip_append (zip_append (hval first.toList) (ogetl_rel hs.frame ha)) (hval captured.toList)) hsub
  have he : first ++ args.map a.eval ++ captured = (first.toList ++ args.toList.map a.eval ++ captured.toList).toArray := by simp
  rw [he]
  refine (hc.2 (Hs ++ F) I w _ (by have := hs.sep; rwa [List.append_assoc] at this) hz).mono ?_
  rintro e w' ⟨I', v, c, own', h1, h2, h3, rfl, h5⟩
  exact hn I' _ _ _ _ h1 ⟨v, rfl⟩ ⟨Im.le_trans hs.le h1, by rw [List.append_assoc]; exact h2, hs.frame.mono h1, hs.nod⟩ (hK c own' h3)

variable (U P) in
/-- What is asked of a function that evaluates calls. -/
def CallOk (call : FuncId → List SV → St → Res) : Prop := ∀ f as st r st', call f as st = some (r, st') → ∀ ρ Hs vs, SOk P ρ st Hs → Zip2 (denV U ρ) as vs →
  ACalls P f (vs.map .val) Hs fun a own' => ∃ ρ' v, ρ.le ρ' ∧ a = .val v ∧ SOk P ρ' st' own' ∧ denV U ρ' r v

theorem subs_refl : ∀ l : List AV, Subs l l
  | [] => .nil
  | a :: l => .cons (Sub.rfl' a) (subs_refl l)

theorem len_ok {x : Operand} {ats : Array TypeId} {xv r : SV} {vx : Value} (h : lenE P st ats.toList xv = some r) (hd : Nat.blt d n = true) (hs : SOk P ρ st Hs) (hx : oget fr x = some (.val vx)) (hvx : denV U ρ xv vx) (hK : KOk U P ρ st r d fr K) :
    AOp P J n ⟨some d, .call ⟨.builtin .len, #[x], ats⟩, ty, ps, af, gd⟩ K Φ fr Hs := by
  unfold lenE at h
  split at h
  · rename_i t hats
    have hats' : ats = #[t] := by rw [← Array.toArray_toList (xs := ats), hats]
    subst hats'
    split at h
    · rename_i e ht
      have key : ∀ b l c, vx = .slice b l c → r = .one (.v (.int .i64 (.ofNat l))) → AOp P J n ⟨some d, .call ⟨.builtin .len, #[x], #[t]⟩, ty, ps, af, gd⟩ K Φ fr Hs := fun b l c e1 e2 => by
        subst e1; subst e2
        exact rBuiltin_val hd (fun _ I a w hA => ⟨.int .i64 (.ofNat l), fun _ => by simp [builtin, Builtin.len_, run_underlying ht, hA.frame.val hx, goInt], .val _⟩) (hK ρ _ _ (Env.le_refl ρ) hs ⟨rfl, rfl⟩)
      split at h
      · cases h; obtain ⟨i, _, rfl, _⟩ := hvx; exact key _ _ _ rfl rfl
      · cases h; obtain ⟨a, c, rfl⟩ := hvx; exact key _ _ _ rfl rfl
      · cases h; cases hvx.1; exact key _ _ _ rfl rfl
      · cases h
    · split at h
      · rename_i s ht
        cases h; cases hvx.1
        exact rLenS ‹_› hd hx (hK ρ _ _ (Env.le_refl ρ) hs ⟨rfl, rfl⟩)
      · cases h
    · cases h
  · cases h

theorem opds_one {l : List Operand} {a : SV} (h : opds g l = some [a]) : ∃ x, l = [x] ∧ opd g x = some a := by
  match l, h with
  | [], h => cases h
  | [x], h =>
    simp only [opds] at h
    split at h
    · rename_i a' ha; cases h; exact ⟨x, rfl, ha⟩
    · cases h
  | x :: y :: r, h =>
    unfold opds at h
    split at h
    · split at h
      · rename_i l' hl
        cases h
        unfold opds at hl
        split at hl
        · split at hl <;> cases hl
        · cases hl
      · cases h
    · cases h
theorem opds_cons {l : List Operand} {a : SV} {as : List SV} (h : opds g l = some (a :: as)) : ∃ x r, l = x :: r ∧ opd g x = some a ∧ opds g r = some as := by
  match l, h with
  | [], h => cases h
  | x :: r, h =>
    unfold opds at h
    split at h
    · rename_i a' ha
      split at h
      · rename_i l' hl; cases h; exact ⟨x, r, rfl, ha, hl⟩
      · cases h
    · cases h
theorem opds_two {l : List Operand} {as : List SV} {a b : SV} (h : opds g l = some as) (h2 : two as = some (a, b)) : ∃ x y, l = [x, y] ∧ opd g x = some a ∧ opd g y = some b := by
  unfold two at h2
  split at h2
  · cases h2
    obtain ⟨x, r, rfl, h3, h4⟩ := opds_cons h
    obtain ⟨y, rfl, h5⟩ := opds_one h4
    exact ⟨x, y, rfl, h3, h5⟩
  · cases h2

theorem built_ok {b : Builtin} {args : Array Operand} {ats : Array TypeId} {as : List SV} {r : SV} {st' : St} (ha : opds g args.toList = some as) (h : builtE P st b ats as = some (r, st')) (hd : Nat.blt d n = true) (hs : SOk P ρ st Hs) (hf : FrOk U ρ g fr) (hK : KOk U P ρ st' r d fr K) :
    AOp P J n ⟨some d, .call ⟨.builtin b, args, ats⟩, ty, ps, af, gd⟩ K Φ fr Hs := by
  have args_eq : ∀ l, args.toList = l → args = l.toArray := fun l e => by rw [← e, Array.toArray_toList]
  unfold builtE at h
  split at h
  · split at h
    · rename_i xv
      obtain ⟨x, hx, hxv⟩ := opds_one ha
      obtain ⟨hh, rfl⟩ := pur_eq h; replace h := hh; clear hh
      obtain ⟨vx, h1, h2⟩ := opd_ok hf hxv
      rw [args_eq _ hx]
      exact len_ok h hd hs h1 h2 hK
    · cases h
  · split at h
    · rename_i xv yv h2
      obtain ⟨x, y, hxy, hx, hy⟩ := opds_two ha h2
      obtain ⟨vx, h3, h4⟩ := opd_ok hf hx
      obtain ⟨vy, h5, h6⟩ := opd_ok hf hy
      rw [args_eq _ hxy]
      unfold appB at h
      split at h
      · rename_i t t' hats
        have : ats = #[t, t'] := by rw [← Array.toArray_toList (xs := ats), hats]
        subst this
        exact append_ok (by unfold appB; exact h) hd hs h3 h4 h5 h6 hK
      · cases h
    · cases h
  · split at h
    · rename_i xv yv h2
      obtain ⟨x, y, hxy, hx, hy⟩ := opds_two ha h2
      obtain ⟨vx, h3, h4⟩ := opd_ok hf hx
      obtain ⟨vy, h5, h6⟩ := opd_ok hf hy
      rw [args_eq _ hxy]
      obtain ⟨hh, rfl⟩ := pur_eq h; replace h := hh; clear hh
      unfold minE at h
      split at h
      · split at h
        · split at h
          · rename_i hk
            have := kn_inj hk; subst this
            cases h4.1; cases h6.1
            simp only [ri] at h
            cases h
            exact rMin hd h3 h5 (hK ρ _ _ (Env.le_refl ρ) hs (by
              rw [ltF_eq]
              refine ⟨?_, rfl⟩
              congr 1
              split <;> rename_i e <;> simp at e <;> omega))
          · cases h
        · cases h
      · cases h
    · cases h
  · split at h
    · rename_i xv yv h2
      obtain ⟨x, y, hxy, hx, hy⟩ := opds_two ha h2
      obtain ⟨vx, h3, h4⟩ := opd_ok hf hx
      obtain ⟨vy, h5, h6⟩ := opd_ok hf hy
      rw [args_eq _ hxy]
      obtain ⟨hh, rfl⟩ := pur_eq h; replace h := hh; clear hh
      unfold minE at h
      split at h
      · split at h
        · split at h
          · rename_i hk
            have := kn_inj hk; subst this
            cases h4.1; cases h6.1
            simp only [ri] at h
            cases h
            exact rMax hd h3 h5 (hK ρ _ _ (Env.le_refl ρ) hs (by
              rw [ltF_eq]
              refine ⟨?_, rfl⟩
              congr 1
              split <;> rename_i e <;> simp at e <;> omega))
          · cases h
        · cases h
      · cases h
    · cases h
  · cases h
end
end Go.Ev

namespace Go.Ev
open Go Go.Ab

theorem SepG.raw {I : Im} {Hs : List HProp} {w : World} {b : Nat} {o : Obj} (h : SepG I (pt b (.raw o) :: Hs) w) (o' : Obj) (ho' : Ab.Obj.noCells o' = true) (w' : World) (hw : w'.heap = w.heap.setIfInBounds b o') (hwo : w'.os = w.os ∧ w'.output = w.output := by exact ⟨rfl, rfl⟩) :
    SepG I (pt b (.raw o') :: Hs) w' := by
  obtain ⟨L, hs, hg⟩ := h
  cases hs with
  | cons h1 h2 =>
    cases h1
    rename_i l'
    obtain ⟨hh, hno⟩ := hg.ob b (.raw o) (by simp)
    have hnd := hg.nd
    rw [List.singleton_append, List.map_cons, List.nodup_cons] at hnd
    have hne' : ∀ b', b ≠ b' → w'.heap[b']? = w.heap[b']? := fun b' hne => by rw [hw, Array.getElem?_setIfInBounds_ne hne]
    refine ⟨_, .cons rfl h2, ⟨fun a u e => ?_, by simpa using hg.nd, fun b' o'' hb' => ?_⟩⟩
    · obtain ⟨e1, e2⟩ := hg.im a u e
      refine ⟨e1, ?_⟩
      have hne : b ≠ a.block := fun e' => by
        subst e'
        unfold World.cell? at e2
        rw [hh] at e2
        cases o <;> simp [Ab.Obj.noCells] at hno e2
      rw [cell_of_heap (hne' _ hne)]
      exact e2
    · rw [List.singleton_append, List.mem_cons] at hb'
      rcases hb' with e | hb'
      · cases e
        refine ⟨?_, ho'⟩
        rw [hw, Array.getElem?_setIfInBounds_self_of_lt (heap_lt hh)]
      · have hne : b ≠ b' := fun e => hnd.1 (List.mem_map.2 ⟨_, hb', e.symm⟩)
        exact (hg.ob b' o'' (by simp [hb'])).heap (hne' _ hne) hwo

section
variable {U : Nat → Value} {P : Program} {J : JD} {n : Nat} {Φ : APost} {fr : Fr} {Hs : List HProp} {K : Fr → List HProp → Prop} {ty : TypeId} {ps : String} {af : Array Edge} {gd : Option (Nat × Bool)} {d : Nat} {ρ : Env} {g : Get} {st : St}

theorem range_ok {t : TypeId} {x : Operand} {r : SV} {st' : St} (h : rangeE P g st t x = some (r, st')) (hd : Nat.blt d n = true) (hs : SOk P ρ st Hs) (hf : FrOk U ρ g fr) (hK : KOk U P ρ st' r d fr K) :
    AOp P J n ⟨some d, .range t x, ty, ps, af, gd⟩ K Φ fr Hs := by
  unfold rangeE at h
  split at h
  · rename_i s hx
    obtain ⟨vx, h1, h2⟩ := opd_ok hf hx
    cases h2.1
    split at h
    · rename_i ht
      cases h
      refine aop_of hd (fun b => .val (.pointer (some ⟨b, 0, none⟩))) (fun b => pt b (.raw (.stringIter s 0)) :: Hs) (fun F I a w hA => ?_) fun b => ?_
      · refine ⟨w.heap.size, I, .pointer (some ⟨w.heap.size, 0, none⟩), { w with heap := w.heap.push (.stringIter s 0) }, Im.le_refl I, by simp [execOp, Instr.range, run_underlying ht, hA.frame.val h1], ?_, .val _⟩
        exact hA.sep.push (.stringIter s 0) _ _ rfl fun hI => ⟨by simp, rfl⟩
      · have hle : ρ.le (ρ.upd st.nx ⟨b, 0⟩) := Env.upd_le (hs.nx _ (Nat.le_refl _))
        exact hK (ρ.upd st.nx ⟨b, 0⟩) _ _ hle (hs.put ⟨b, 0⟩ _ _ ⟨⟨b, 0⟩, Env.upd_at, rfl⟩) ⟨⟨b, 0⟩, Env.upd_at, rfl⟩
    · cases h
  · rename_i m hx
    obtain ⟨vx, h1, j, hj, rfl⟩ := opd_ok hf hx
    split at h
    · rename_i kt et ht
      split at h
      · rename_i c hg
        cases h
        obtain ⟨k, Hs', hp, ho, _, _⟩ := hs.h.get hg
        obtain ⟨j', hj', rfl⟩ := ho
        rw [hj] at hj'; cases hj'
        refine aop_of hd (fun b => .val (.pointer (some ⟨b, 0, none⟩))) (fun b => pt b (.raw (.mapIter (some j.b) c #[] c)) :: Hs) (fun F I a w hA => ?_) fun b => ?_
        · have hobj : (getObj j.b).run P w = .ok (.map #[] c) w := by
            obtain ⟨L, hL, hG⟩ := HSub.perm (hp.append_right F) I w hA.sep
            cases hL with
            | cons h1 h2 =>
              cases h1
              obtain ⟨ents, he, hz0⟩ := hG.ob j.b (.map [] c) (by simp)
              have hents : ents = #[] := by
                have : ents.toList = [] := by generalize ents.toList = l at hz0; cases hz0; rfl
                simpa using this
              subst hents
              simp [getObj, Sem.run, he]
          refine ⟨w.heap.size, I, .pointer (some ⟨w.heap.size, 0, none⟩), { w with heap := w.heap.push (.mapIter (some j.b) c #[] c) }, Im.le_refl I, by simp [execOp, Instr.range, run_underlying ht, hA.frame.val h1, hobj], ?_, .val _⟩
          exact hA.sep.push (.mapIter (some j.b) c #[] c) _ _ rfl fun hI => ⟨by simp, rfl⟩
        · have hle : ρ.le (ρ.upd st.nx ⟨b, 0⟩) := Env.upd_le (hs.nx _ (Nat.le_refl _))
          exact hK (ρ.upd st.nx ⟨b, 0⟩) _ _ hle (hs.put ⟨b, 0⟩ (.mapI m c) _ ⟨⟨b, 0⟩, j, Env.upd_at, hle _ _ hj, rfl⟩) ⟨⟨b, 0⟩, Env.upd_at, rfl⟩
      · cases h
    · cases h
  · cases h

theorem next_ok {x : Operand} {isS : Bool} {r : SV} {st' : St} (h : nextE g st x isS = some (r, st')) (hd : Nat.blt d n = true) (hs : SOk P ρ st Hs) (hf : FrOk U ρ g fr) (hK : KOk U P ρ st' r d fr K) :
    AOp P J n ⟨some d, .next x isS, ty, ps, af, gd⟩ K Φ fr Hs := by
  unfold nextE at h
  split at h
  · split at h
    · rename_i id off hx
      split at h
      · obtain ⟨vx, h1, i, hi, rfl⟩ := opd_ok hf hx
        split at h
        · rename_i m c hg
          split at h
          · rename_i c' hgm
            cases h
            obtain ⟨k, Hs', hp, ho, _, _⟩ := hs.h.get hg
            obtain ⟨i', j, hi', hj, rfl⟩ := ho
            rw [hi] at hi'; cases hi'
            obtain ⟨k2, Hs2, hp2, ho2, _, _⟩ := hs.h.get hgm
            obtain ⟨j', hj', rfl⟩ := ho2
            rw [hj] at hj'; cases hj'
            refine aop_val hd (fun F I a w hA => ⟨.tuple #[.bool false], ?_, .val _⟩) (hK ρ _ _ (Env.le_refl ρ) hs ⟨[.bool false], .cons ⟨rfl, rfl⟩ .nil, rfl⟩)
            have hobj : (getObj i.b).run P w = .ok (.mapIter (some j.b) c #[] c) w := by
              obtain ⟨L, hL, hG⟩ := HSub.perm (hp.append_right F) I w hA.sep
              cases hL with
              | cons h1 h2 =>
                cases h1
                obtain ⟨he, _⟩ := hG.ob i.b (.raw (.mapIter (some j.b) c #[] c)) (by simp)
                simp [getObj, Sem.run, he]
            have hobj2 : (getObj j.b).run P w = .ok (.map #[] c') w := by
              obtain ⟨L, hL, hG⟩ := HSub.perm (hp2.append_right F) I w hA.sep
              cases hL with
              | cons h1 h2 =>
                cases h1
                obtain ⟨ents, he, hz0⟩ := hG.ob j.b (.map [] c') (by simp)
                have hents : ents = #[] := by
                  have : ents.toList = [] := by generalize ents.toList = l at hz0; cases hz0; rfl
                  simpa using this
                subst hents
                simp [getObj, Sem.run, he]
            simp [execOp, hA.frame.val h1, Instr.next, hobj, hobj2, Question.forced]
          · cases h
        · cases h
      · cases h
    · cases h
  · split at h
    · rename_i id off hx
      split at h
      · obtain ⟨vx, h1, i, hi, rfl⟩ := opd_ok hf hx
        split at h
        · rename_i s pos hg
          obtain ⟨k, Hs', hp, ho, hset, _⟩ := hs.h.get hg
          obtain ⟨i', hi', rfl⟩ := ho
          rw [hi] at hi'; cases hi'
          have hobj : ∀ (F : List HProp) (I : Im) (w : World), SepG I ((pt i.b (.raw (.stringIter s pos)) :: Hs') ++ F) w → (getObj i.b).run P w = .ok (.stringIter s pos) w ∧ w.heap[i.b]? = some (.stringIter s pos) := fun F I w hw => by
            obtain ⟨L, hL, hG⟩ := hw
            cases hL with
            | cons h1 h2 =>
              cases h1
              obtain ⟨he, _⟩ := hG.ob i.b (.raw (.stringIter s pos)) (by simp)
              exact ⟨by simp [getObj, Sem.run, he], he⟩
          refine aop_perm hp ?_
          unfold nextAt at h
          split at h
          · rename_i hnone
            cases h
            have hnp : ¬ pos < s.size := by
              have : s.data.toList.length ≤ pos := by simpa using hnone
              have e : s.size = s.data.toList.length := rfl
              omega
            refine aop_val hd (fun F I a w hA => ⟨.tuple #[.bool false], ?_, .val _⟩) (hK ρ _ _ (Env.le_refl ρ) (hs.perm hp) ⟨[.bool false], .cons ⟨rfl, rfl⟩ .nil, rfl⟩)
            simp [execOp, hA.frame.val h1, Instr.next, (hobj F I w hA.sep).1, hnp]
          · rename_i b hb
            split at h
            · rename_i hlt
              cases h
              have hlt' : b.toNat < 128 := by simpa [Nat.blt_eq] using hlt
              have hpos : pos < s.size := by
                have := lt_of_get hb
                have e : s.size = s.data.toList.length := rfl
                omega
              have hbe : s[pos]'hpos = b := by
                have h3 : s.data[pos]? = some b := by simpa using hb
                have h4 : s.data[pos]'hpos = b := by
                  have := Array.getElem?_eq_getElem (xs := s.data) (i := pos) hpos
                  rw [this] at h3; exact Option.some.inj h3
                exact h4
              have hdec := decode_ascii s pos hpos (by rw [hbe]; exact hlt')
              refine aop_of hd (fun _ : Unit => .val (.tuple #[.bool true, .int .i64 (.ofNat pos), .int .i32 (.ofNat b.toNat)])) (fun _ => pt i.b (.raw (.stringIter s (pos + 1))) :: Hs') (fun F I a w hA => ?_) fun _ => ?_
              · obtain ⟨ho1, ho2⟩ := hobj F I w hA.sep
                refine ⟨(), I, _, { w with heap := w.heap.setIfInBounds i.b (.stringIter s (pos + 1)) }, Im.le_refl I, ?_, ?_, .val _⟩
                · simp [execOp, hA.frame.val h1, Instr.next, ho1, hpos, hdec, hbe, goInt, setObj, Sem.run, ho2]
                · exact SepG.raw hA.sep (.stringIter s (pos + 1)) rfl _ rfl
              · refine hK ρ _ _ (Env.le_refl ρ) ⟨hset ρ (.str s (pos + 1)) _ (Env.le_refl ρ) ⟨i, hi, rfl⟩, fun j hj => hs.nx j hj⟩ ⟨[.bool true, .int .i64 (.ofNat pos), .int .i32 (.ofNat b.toNat)], .cons ⟨rfl, rfl⟩ (.cons ⟨rfl, rfl⟩ (.cons ⟨rfl, rfl⟩ .nil)), rfl⟩
            · cases h
        · cases h
      · cases h
    · cases h
end
end Go.Ev

namespace Go.Ev
open Go Go.Ab
section
variable {U : Nat → Value} {P : Program} {J : JD} {n : Nat} {Φ : APost} {fr : Fr} {Hs : List HProp} {K : Fr → List HProp → Prop} {ty : TypeId} {ps : String} {af : Array Edge} {gd : Option (Nat × Bool)} {d : Nat} {ρ : Env} {g : Get} {st : St}

theorem zip_ones : ∀ {a : List SC} {fa : List Value}, Zip2 (den1 ρ) a fa → Zip2 (denV U ρ) (a.map .one) fa
  | _, _, .nil => .nil
  | c :: _, _, .cons h t => .cons (by cases c <;> first | exact h | exact h.elim) (zip_ones t)

theorem callO_ok {call : FuncId → List SV → St → Res} (hcall : CallOk U P call) {c : Call} {r : SV} {st' : St} (h : callOE P call g st c = some (r, st')) (hd : Nat.blt d n = true) (hs : SOk P ρ st Hs) (hf : FrOk U ρ g fr) (hK : KOk U P ρ st' r d fr K) :
    AOp P J n ⟨some d, .call c, ty, ps, af, gd⟩ K Φ fr Hs := by
  obtain ⟨callee, args, ats⟩ := c
  unfold callOE at h
  split at h
  · rename_i as ha
    split at h
    · rename_i b hb
      simp only at hb; subst hb
      exact built_ok ha h hd hs hf hK
    · rename_i f hb
      simp only at hb; subst hb
      split at h
      · rename_i f' a b hfo
        obtain ⟨vf, h1, fa, fb, h2, h3, rfl⟩ := opd_ok hf hfo
        obtain ⟨vs, h4, h5⟩ := opds_ok hf ha
        have hz : Zip2 (denV U ρ) (a.map SV.one ++ as ++ b.map SV.one) (fa ++ vs ++ fb) := zip_append (zip_append (zip_ones h2) h5) (zip_ones h3)
        have hc := hcall _ _ _ _ _ h ρ Hs _ hs hz
        refine rCallV hd h1 hc h4 ?_ (List.append_nil Hs).symm fun a' own' ⟨ρ', v, e1, e2, e3, e4⟩ => ?_
        · simp only [List.map_append, List.toList_toArray]
          exact subs_refl _
        · subst e2
          rw [List.append_nil]
          exact hK ρ' v _ e1 e3 e4
      · cases h
    · cases h
  · cases h

theorem op_ok {call : FuncId → List SV → St → Res} (hcall : CallOk U P call) {o : Op} {r : SV} {st' : St} (h : opE P call g st o = some (r, st')) (hd : Nat.blt d n = true) (hs : SOk P ρ st Hs) (hf : FrOk U ρ g fr) (hK : KOk U P ρ st' r d fr K) :
    AOp P J n ⟨some d, o, ty, ps, af, gd⟩ K Φ fr Hs := by
  cases o <;> simp only [opE] at h
  case move x =>
    obtain ⟨hh, rfl⟩ := pur_eq h
    obtain ⟨v, h1, h2⟩ := opd_ok hf hh
    exact rMove hd h1 (hK ρ _ _ (Env.le_refl ρ) hs h2)
  case assign x =>
    obtain ⟨hh, rfl⟩ := pur_eq h
    obtain ⟨v, h1, h2⟩ := opd_ok hf hh
    exact rAssign hd h1 (hK ρ _ _ (Env.le_refl ρ) hs h2)
  case pick => exact pick_ok h hd hs hf hK
  case alloc => exact alloc_ok h hd hs hK
  case box => exact box_ok h hd hs hf hK
  case build => exact build_ok h hd hs hf hK
  case buildSlice => exact buildS_ok h hd hs hf hK
  case load => exact load_ok h hd hs hf hK
  case nilCheck => exact nil_ok h hd hs hf hK
  case binOp => exact binOp_ok h hd hs hf hK
  case unOp => exact unOp_ok h hd hs hf hK
  case convert => exact conv_ok h hd hs hf hK
  case makeFunc => exact makeFunc_ok h hd hs hf hK
  case makeMap => exact makeMap_ok h hd hs hK
  case slice => exact slice_ok h hd hs hf hK
  case fieldAddr => exact fieldA_ok h hd hs hf hK
  case field => exact field_ok h hd hs hf hK
  case indexAddr => exact indexA_ok h hd hs hf hK
  case index => exact index_ok h hd hs hf hK
  case lookup => exact lookup_ok h hd hs hf hK
  case extract => exact extract_ok h hd hs hf hK
  case range => exact range_ok h hd hs hf hK
  case next => exact next_ok h hd hs hf hK
  case call => exact callO_ok hcall h hd hs hf hK
  all_goals cases h

theorem opN_ok {call : FuncId → List SV → St → Res} (hcall : CallOk U P call) {o : Op} {st' : St} (h : opN P call g st o = some st') (hs : SOk P ρ st Hs) (hf : FrOk U ρ g fr) (hK : ∀ ρ' Hs', ρ.le ρ' → SOk P ρ' st' Hs' → K fr Hs') :
    AOp P J n ⟨none, o, ty, ps, af, gd⟩ K Φ fr Hs := by
  unfold opN at h
  split at h
  · exact store_ok h hs hf fun Hs' h' => hK ρ Hs' (Env.le_refl ρ) h'
  · rename_i c
    split at h
    · cases h
    rename_i hnb
    split at h
    · rename_i r0 st0 hc
      cases h
      obtain ⟨callee, args, ats⟩ := c
      unfold callOE at hc
      split at hc
      · rename_i as ha
        split at hc
        · rename_i b hb
          exact (hnb b hb).elim
        · rename_i f hb
          simp only at hb; subst hb
          split at hc
          · rename_i f' a b hfo
            obtain ⟨vf, h1, fa, fb, h2, h3, rfl⟩ := opd_ok hf hfo
            obtain ⟨vs, h4, h5⟩ := opds_ok hf ha
            have hz : Zip2 (denV U ρ) (a.map SV.one ++ as ++ b.map SV.one) (fa ++ vs ++ fb) := zip_append (zip_append (zip_ones h2) h5) (zip_ones h3)
            have hcc := hcall _ _ _ _ _ hc ρ Hs _ hs hz
            refine rCallVN h1 hcc h4 ?_ (List.append_nil Hs).symm fun a' own' ⟨ρ', v, e1, e2, e3, e4⟩ => ?_
            · simp only [List.map_append, List.toList_toArray]
              exact subs_refl _
            · rw [List.append_nil]
              exact hK ρ' _ e1 e3
          · cases hc
        · cases hc
      · cases hc
    · cases h
  · cases h
end
end Go.Ev
