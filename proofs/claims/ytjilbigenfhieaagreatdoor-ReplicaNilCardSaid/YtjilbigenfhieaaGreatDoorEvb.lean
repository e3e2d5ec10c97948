/- An evaluator of closed runs, part 2: it is sound: no statement of the seat is proved here; no condition. -/
import Derived.RangeFuncRecord
import Derived.Test.YtjilbigenfhieaaGreatDoorEva
set_option linter.unusedVariables false
set_option linter.unusedSimpArgs false
set_option linter.all false
namespace Go.Ev
open Go Go.Ab
section
variable {U : Nat → Value} {P : Program} {J : JD} {n : Nat} {Φ : APost} {fr : Fr} {Hs : List HProp} {K : Fr → List HProp → Prop} {ρ : Env} {F : List HProp}

theorem aop_frame {o : Oper} {K' : Fr → List HProp → Prop} (h : AOp P J n o K AFalse fr Hs) (hk : ∀ fr' Hs', K fr' Hs' → K' fr' (Hs' ++ F)) : AOp P J n o K' Φ fr (Hs ++ F) := by
  intro F0 I a w hs next Q hn _
  refine h (F ++ F0) I a w ⟨hs.le, by rw [← List.append_assoc]; exact hs.sep, hs.frame, hs.nod⟩ next Q (fun I' fr' Hs' a' w' h1 h2 h3 h4 => ?_) (fun _ _ _ _ _ _ _ hf => hf.elim)
  exact hn I' fr' (Hs' ++ F) a' w' h1 h2 ⟨h3.le, by rw [List.append_assoc]; exact h3.sep, h3.frame, h3.nod⟩ (hk _ _ h4)

/-- What is known of a state. -/
structure CfOk (U : Nat → Value) (P : Program) (ρ : Env) (c : Cf) (fr : Fr) (Hs : List HProp) : Prop where
  s : SOk P ρ c.st Hs
  f : FrOk U ρ c.fr.get fr

theorem step_ok {call : FuncId → List SV → St → Res} (hcall : CallOk U P call) {o : Oper} {c c' : Cf} (h : stepE P call n o c = some c') (hc : CfOk U P ρ c fr Hs) (hK : ∀ ρ' fr' Hs', ρ.le ρ' → CfOk U P ρ' c' fr' Hs' → K fr' (Hs' ++ F)) :
    AOp P J n o K Φ fr (Hs ++ F) := by
  obtain ⟨dst, op, ty, ps, af, gd⟩ := o
  unfold stepE at h
  split at h
  · rename_i d hd
    simp only at hd; subst hd
    split at h
    · rename_i hlt
      split at h
      · rename_i v st hop
        cases h
        refine aop_frame (K := fun fr' Hs' => K fr' (Hs' ++ F)) (op_ok hcall hop hlt hc.s hc.f fun ρ' v' Hs' h1 h2 h3 => ?_) fun _ _ h => h
        exact hK ρ' _ _ h1 ⟨h2, (hc.f.mono h1).set h3⟩
      · cases h
    · cases h
  · rename_i hd
    simp only at hd; subst hd
    split at h
    · rename_i st hop
      cases h
      exact aop_frame (K := fun fr' Hs' => K fr' (Hs' ++ F)) (opN_ok hcall hop hc.s hc.f fun ρ' Hs' h1 h2 => hK ρ' _ _ h1 ⟨h2, hc.f.mono h1⟩) fun _ _ h => h
    · cases h

theorem FrOk.unset {t : Tr SV} {fr : Fr} (hf : FrOk U ρ t.get fr) (d : Nat) (a : AV) : FrOk U ρ (Tr.set 40 t d none).get ((d, a) :: fr) := fun j u hu => by
  rcases Tr.get_set _ _ _ _ _ _ hu with ⟨_, h⟩ | ⟨hj, h⟩
  · cases h
  · obtain ⟨w, h1, h2⟩ := hf j u h
    refine ⟨w, ?_, h2⟩
    unfold fget
    have : Nat.beq j d = false := by rw [Bool.eq_false_iff]; exact fun e => hj (Nat.eq_of_beq_eq_true e)
    rw [this]; exact h1

theorem ops_ok {call : FuncId → List SV → St → Res} (hcall : CallOk U P call) {ops : Array Oper} : ∀ (rest : List Oper) {c c' : Cf} {ρ : Env} {fr : Fr} {Hs : List HProp}, opsE P call n ops.toList rest c = some c' → CfOk U P ρ c fr Hs →
    (∀ ρ' fr' Hs', ρ.le ρ' → CfOk U P ρ' c' fr' Hs' → Φ .normal fr' (Hs' ++ F)) → AOps P J n ops rest Φ fr (Hs ++ F)
  | [], c, c', ρ, fr, Hs, h, hc, hK => by
    cases h
    exact aops_nil (hK ρ _ _ (Env.le_refl ρ) hc)
  | o :: rest, c, c', ρ, fr, Hs, h, hc, hK => by
    have next : ∀ c1, opsE P call n ops.toList rest c1 = some c' → ∀ ρ' fr' Hs', ρ.le ρ' → CfOk U P ρ' c1 fr' Hs' → AOps P J n ops rest Φ fr' (Hs' ++ F) := fun c1 h1 ρ' fr' Hs' hle hc1 =>
      ops_ok hcall rest h1 hc1 fun ρ'' _ _ h2 h3 => hK ρ'' _ _ (Env.le_trans hle h2) h3
    unfold opsE at h
    split at h
    · rename_i hg
      split at h
      · rename_i c1 hs
        exact aops_cons hg (step_ok hcall hs hc (next c1 h))
      · cases h
    · rename_i j b hg
      have hguard : ∀ r, guardE ops.toList c.fr j b = some r → ∃ t, (ops[j]?).bind (·.dst) = some t ∧ fget t fr = some (.val (.bool (if r then b else !b))) := fun r hr => by
        unfold guardE at hr
        split at hr
        · rename_i oj hoj
          split at hr
          · rename_i t ht
            split at hr
            · rename_i x hx
              cases hr
              obtain ⟨v, h1, h2⟩ := hc.f t _ hx
              cases h2.1
              refine ⟨t, by have : ops[j]? = some oj := by simpa using hoj
                            rw [this]; exact ht, ?_⟩
              rw [h1, beqB_eq]
              cases x <;> cases b <;> rfl
            · cases hr
          · cases hr
        · cases hr
      split at h
      · rename_i hgd
        obtain ⟨t, h1, h2⟩ := hguard _ hgd
        split at h
        · rename_i c1 hs
          exact aops_gdo hg h1 h2 (step_ok hcall hs hc (next c1 h))
        · cases h
      · rename_i hgd
        obtain ⟨t, h1, h2⟩ := hguard _ hgd
        split at h
        · rename_i d hd
          split at h
          · rename_i hlt
            obtain ⟨dst, op, ty, ps, af, gd⟩ := o
            simp only at hg hd; subst hg; subst hd
            exact aops_gskip h1 h2 hlt (next _ h ρ _ _ (Env.le_refl ρ) ⟨hc.s, hc.f.unset d _⟩)
          · cases h
        · cases h
      · cases h
end
end Go.Ev

namespace Go.Ev
open Go Go.Ab

/-- The rest of a loop, from its body on. -/
def LWP (P : Program) (J : JD) (n : Nat) (c : Code) (Φ : APost) (fr : Fr) (Hs : List HProp) : Prop :=
  ∀ I a w, AState J I n fr Hs a w → ∀ (b : Frame) (k : List Item) (cs : List Frame), ∃ e a' w', lift J n Φ e a' w' ∧ Arrives P (lone (b.at a (.code c :: .inLoop c :: k)) cs w) b k cs e a' w'

section
variable {U : Nat → Value} {P : Program} {J : JD} {n : Nat} {Φ : APost} {fr : Fr} {Hs : List HProp}

theorem lwp_loop {c : Code} (h : LWP P J n c Φ fr Hs) : AWP P J n (.loop c) Φ fr Hs := fun I a w hs b k cs =>
  let ⟨e, a', w', hq, harr⟩ := h I a w hs b k cs
  ⟨e, a', w', hq, .of_steps (.one step_loop) harr⟩

theorem lwp_unroll {c : Code} (h : AWP P J n c (aseq (LWP P J n c Φ) Φ) fr Hs) : LWP P J n c Φ fr Hs := by
  intro I a w hs b k cs
  obtain ⟨e, a₁, w₁, ⟨I₁, fr₁, Hs₁, hs₁, hq⟩, harr⟩ := h I a w hs b (.inLoop c :: k) cs
  cases e with
  | normal =>
    obtain ⟨e₂, a₂, w₂, hq₂, harr₂⟩ := hq I₁ a₁ w₁ hs₁ b k cs
    exact ⟨e₂, a₂, w₂, hq₂, .of_steps (Steps.trans harr (.one step_inLoop)) harr₂⟩
  | exit id => exact ⟨_, a₁, w₁, ⟨I₁, fr₁, Hs₁, hs₁, hq⟩, .pass (x := .inLoop c) rfl (fun _ _ => .inl (by simp)) harr⟩
  | goto l => exact ⟨_, a₁, w₁, ⟨I₁, fr₁, Hs₁, hs₁, hq⟩, .pass (x := .inLoop c) rfl (fun _ _ => .inl (by simp)) harr⟩
  | ret => exact ⟨_, a₁, w₁, ⟨I₁, fr₁, Hs₁, hs₁, hq⟩, .pass (x := .inLoop c) rfl (fun _ _ => .inl (by simp)) harr⟩
  | panic ch => exact ⟨_, a₁, w₁, ⟨I₁, fr₁, Hs₁, hs₁, hq⟩, .pass (x := .inLoop c) rfl (fun _ _ => .inl (by simp)) harr⟩
  | outgrown => exact ⟨_, a₁, w₁, ⟨I₁, fr₁, Hs₁, hs₁, hq⟩, .pass (x := .inLoop c) rfl (fun _ _ => .inl (by simp)) harr⟩

def exOf : Ex → Exit
  | .normal => .normal
  | .exit i => .exit i
  | .ret => .ret

variable (U P) in
def SelfOk (n : Nat) (self : Code → Cf → Option (Ex × Cf)) : Prop := ∀ c cf e cf', self c cf = some (e, cf') → ∀ J Φ F ρ fr Hs, CfOk U P ρ cf fr Hs →
  (∀ ρ' fr' Hs', ρ.le ρ' → CfOk U P ρ' cf' fr' Hs' → Φ (exOf e) fr' (Hs' ++ F)) → AWP P J n c Φ fr (Hs ++ F) ∧ ∀ b, c = .loop b → LWP P J n b Φ fr (Hs ++ F)

variable (U P) in
def DrawOk (n : Nat) (dr : Nat → List Oper → Cf → Option Cf) : Prop := ∀ ops cf cf', dr n ops cf = some cf' → ∀ J Φ F ρ fr Hs id, CfOk U P ρ cf fr Hs →
  (∀ ρ' fr' Hs', ρ.le ρ' → CfOk U P ρ' cf' fr' Hs' → Φ .normal fr' (Hs' ++ F)) → AWP P J n (.region id ops.toArray true) Φ fr (Hs ++ F)

theorem code_ok {call : FuncId → List SV → St → Res} (hcall : CallOk U P call) {dr : Nat → List Oper → Cf → Option Cf} (hdr : DrawOk U P n dr) {self : Code → Cf → Option (Ex × Cf)} (hself : SelfOk U P n self) : SelfOk U P n (codeE P call dr n self) := by
  intro c cf e cf' h J Φ F ρ fr Hs hc hK
  cases c <;> simp only [codeE] at h
  case skip => cases h; exact ⟨awp_skip (hK ρ _ _ (Env.le_refl ρ) hc), fun _ e => by cases e⟩
  case exit => cases h; exact ⟨awp_exit (hK ρ _ _ (Env.le_refl ρ) hc), fun _ e => by cases e⟩
  case ret => cases h; exact ⟨awp_ret (hK ρ _ _ (Env.le_refl ρ) hc), fun _ e => by cases e⟩
  case region id ops draw =>
    refine ⟨?_, fun _ e => by cases e⟩
    split at h
    · split at h
      · rename_i cf1 h1
        cases h
        have := ops_ok (Φ := Φ) (J := J) (F := F) hcall (ops := ops) ops.toList h1 hc hK
        have h2 := awp_region (id := id) (l := ops.toList) (P := P) (J := J) (n := n) (Φ := Φ) (fr := fr) (Hs := Hs ++ F) (by rw [Array.toArray_toList]; exact this)
        rw [Array.toArray_toList] at h2; exact h2
      · cases h
    · split at h
      · rename_i cf1 h1
        cases h
        have := hdr _ _ _ h1 J Φ F ρ fr Hs id hc hK
        rw [Array.toArray_toList] at this; exact this
      · cases h
  case seq a b =>
    refine ⟨awp_seq ?_, fun _ e => by cases e⟩
    split at h
    · rename_i cf1 h1
      exact (hself _ _ _ _ h1 J _ F ρ fr Hs hc fun ρ' fr' Hs' hle hc' => (hself _ _ _ _ h J Φ F ρ' fr' Hs' hc' fun ρ'' _ _ h2 h3 => hK ρ'' _ _ (Env.le_trans hle h2) h3).1).1
    · rename_i hne
      refine (hself _ _ _ _ h J _ F ρ fr Hs hc fun ρ' fr' Hs' hle hc' => ?_).1
      cases e with
      | normal => exact (hne _ h).elim
      | exit i => exact hK ρ' _ _ hle hc'
      | ret => exact hK ρ' _ _ hle hc'
  case cond x a b =>
    refine ⟨?_, fun _ e => by cases e⟩
    split at h
    · rename_i t
      split at h
      · rename_i v hv
        obtain ⟨u, h1, h2⟩ := hc.f t _ hv
        cases h2.1
        split at h
        · exact awp_cond rfl h1 (fun _ => (hself _ _ _ _ h J Φ F ρ fr Hs hc hK).1) (fun e => by cases e)
        · exact awp_cond rfl h1 (fun e => by cases e) (fun _ => (hself _ _ _ _ h J Φ F ρ fr Hs hc hK).1)
      · cases h
    · rename_i w
      split at h
      · rename_i v
        have key : ∀ (c : Code), (if v then a else b) = c → AWP P J n c Φ fr (Hs ++ F) → AWP P J n (.cond (.const (.bool v)) a b) Φ fr (Hs ++ F) := fun c hc h I ac w hs =>
          wp_cond_split (show ac.eval (.const (.bool v)) = .bool v from rfl) (fun e => by subst e; simp at hc; subst hc; exact h I ac w hs) (fun e => by subst e; simp at hc; subst hc; exact h I ac w hs)
        split at h
        · exact key a rfl (hself _ _ _ _ h J Φ F ρ fr Hs hc hK).1
        · exact key b rfl (hself _ _ _ _ h J Φ F ρ fr Hs hc hK).1
      · cases h
    · cases h
  case block id b =>
    refine ⟨awp_block ?_, fun _ e => by cases e⟩
    split at h
    · rename_i j cf1 h1
      split at h
      · rename_i hj
        have := Nat.eq_of_beq_eq_true hj; subst this
        cases h
        refine (hself _ _ _ _ h1 J _ F ρ fr Hs hc fun ρ' fr' Hs' hle hc' => ?_).1
        show if j = j then _ else _
        rw [if_pos rfl]; exact hK ρ' _ _ hle hc'
      · rename_i hj
        cases h
        refine (hself _ _ _ _ h1 J _ F ρ fr Hs hc fun ρ' fr' Hs' hle hc' => ?_).1
        show if j = id then _ else _
        rw [if_neg (fun e => by subst e; rw [Nat.beq_refl] at hj; cases hj)]
        exact hK ρ' _ _ hle hc'
    · rename_i hne
      refine (hself _ _ _ _ h J _ F ρ fr Hs hc fun ρ' fr' Hs' hle hc' => ?_).1
      cases e with
      | normal => exact hK ρ' _ _ hle hc'
      | exit i => exact (hne _ _ h).elim
      | ret => exact hK ρ' _ _ hle hc'
  case loop b =>
    have key : LWP P J n b Φ fr (Hs ++ F) := by
      refine lwp_unroll ?_
      split at h
      · rename_i cf1 h1
        exact (hself _ _ _ _ h1 J _ F ρ fr Hs hc fun ρ' fr' Hs' hle hc' => (hself _ _ _ _ h J Φ F ρ' fr' Hs' hc' fun ρ'' _ _ h2 h3 => hK ρ'' _ _ (Env.le_trans hle h2) h3).2 b rfl).1
      · rename_i hne
        refine (hself _ _ _ _ h J _ F ρ fr Hs hc fun ρ' fr' Hs' hle hc' => ?_).1
        cases e with
        | normal => exact (hne _ h).elim
        | exit i => exact hK ρ' _ _ hle hc'
        | ret => exact hK ρ' _ _ hle hc'
    exact ⟨lwp_loop key, fun b' e => by cases e; exact key⟩
  all_goals cases h
end
end Go.Ev

namespace Go.Ev
open Go Go.Ab
section
variable {U : Nat → Value} {P : Program} {J : JD} {n : Nat} {Φ : APost} {fr : Fr} {Hs : List HProp} {ρ : Env} {g : Get} {st : St}

theorem loadE_run {t : TypeId} {x : Operand} {r : SV} {st' : St} (h : loadE P g st t x = some (r, st')) (hs : SOk P ρ st Hs) (hf : FrOk U ρ g fr) :
    st' = st ∧ ∃ v p, denV U ρ r v ∧ oget fr x = some (.val (.pointer (some p))) ∧ ∀ I F w, SepG I (Hs ++ F) w → (loadVar t p).run P w = .ok v w := by
  unfold loadE at h
  split at h
  · rename_i id off ha
    obtain ⟨va, h1, i, hi, rfl⟩ := opd_ok hf ha
    split at h
    · rename_i b cs tt hg
      obtain ⟨hh, rfl⟩ := pur_eq h; replace h := hh; clear hh
      obtain ⟨k, Hs', hp, ho, _, _⟩ := hs.h.get hg
      obtain ⟨i', vs, tl, hi', hz, rfl, _⟩ := cells_chunk ho
      rw [hi] at hi'; cases hi'
      refine ⟨rfl, ?_⟩
      have sep : ∀ I F w, SepG I (Hs ++ F) w → SepG I (pt i.b (.cells ((vs ++ tl).map .val) tt) :: (Hs' ++ F)) w := fun I F w hw => HSub.perm (hp.append_right F) I w hw
      rcases take_ok (U := U) h hz with ⟨v, ha, hv, hr⟩ | ⟨s, ha, hs0, hle, hr⟩ | ⟨s, ha, hs0, rfl, hr⟩
      · refine ⟨v, _, hr, h1, fun I F w hw => ?_⟩
        have hc := sep_get (sep I F w hw) (off := off) (v := v) (by rw [List.getElem?_append_left (lt_of_get hv)]; exact hv)
        simp [loadVar, agg_T ha, hc]
      · refine ⟨.agg ((vs.drop off).take s).toArray, _, hr, h1, fun I F w hw => ?_⟩
        have hl := run_loadCells_list (P := P) (w := w) ⟨i.b, off, none⟩ ((vs.drop off).take s) fun j v hv => by
          rw [addr_add]
          refine sep_get (sep I F w hw) ?_
          rw [List.getElem?_take] at hv
          split at hv
          · rw [List.getElem?_drop] at hv
            rw [List.getElem?_append_left (lt_of_get hv)]; exact hv
          · cases hv
        have hlen : ((vs.drop off).take s).length = s := by rw [List.length_take, List.length_drop]; omega
        rw [hlen] at hl
        simp [loadVar, agg_T ha, size_of hs0, hl]
      · refine ⟨.agg #[], _, hr, h1, fun I F w hw => ?_⟩
        have hl := run_loadCells_list (P := P) (w := w) ⟨i.b, off, none⟩ [] fun j v hv => by simp at hv
        simp only [List.length_nil] at hl
        simp [loadVar, agg_T ha, size_of hs0, hl]
    · cases h
  · cases h

/-- What a function's results are. -/
theorem resE_ok {cf : Cf} (hc : CfOk U P ρ cf fr Hs) : ∀ {l : List ResultVar} {out : List SV}, resE P cf l = some out → ∃ vs, Zip2 (denV U ρ) out vs ∧ ∀ (I : Im) (F : List HProp) (a : Act) (w : World), FrRel I n fr a.tmps → SepG I (Hs ++ F) w →
    (l.mapM fun | .tmp t => pure (a.tmps.getD t undef) | .cell b t => do loadVar t (← asAddr (a.tmps.getD b undef)) : Sem (List Value)).run P w = .ok vs w
  | [], out, h => by cases h; exact ⟨[], .nil, fun _ _ _ _ _ _ => rfl⟩
  | .tmp t :: l, out, h => by
    unfold resE at h
    split at h
    · rename_i v l' hv hl
      cases h
      obtain ⟨vs, h1, h2⟩ := resE_ok hc hl
      obtain ⟨u, h3, h4⟩ := hc.f t _ hv
      refine ⟨u :: vs, .cons h4 h1, fun I F a w hA hw => ?_⟩
      have e : a.tmps.getD t undef = u := (hA.get h3).val_eq
      simp only [List.mapM_cons, Sem.run_bind, Sem.run_pure, Result.andThen_ok]
      rw [h2 I F a w hA hw, e]
      rfl
    · cases h
  | .cell b t :: l, out, h => by
    unfold resE at h
    split at h
    · rename_i v s' l' hv hl
      cases h
      obtain ⟨vs, h1, h2⟩ := resE_ok hc hl
      obtain ⟨_, u, p, h3, h4, h5⟩ := loadE_run hv hc.s hc.f
      refine ⟨u :: vs, .cons h3 h1, fun I F a w hA hw => ?_⟩
      have e : a.tmps.getD b undef = .pointer (some p) := (hA.get h4).val_eq
      have ea : (asAddr (.pointer (some p))).run P w = .ok p w := rfl
      simp only [List.mapM_cons, Sem.run_bind, e, ea, Sem.run_pure, Result.andThen_ok, h5 I F w hw]
      rw [h2 I F a w hA hw]
      rfl
    · cases h

theorem zip_B : ∀ {l : List SV} {vs : List Value}, l.all notTup = true → Zip2 (denV U ρ) l vs → Zip2 (denB U ρ) l vs
  | [], [], _, _ => .nil
  | [], _ :: _, _, h => by cases h
  | _ :: _, [], _, h => by cases h
  | c :: l, v :: vs, h, .cons h0 ht => by
    simp only [List.all_cons, Bool.and_eq_true] at h
    exact .cons (by cases c <;> first | exact h0 | (simp [notTup] at h)) (zip_B h.2 ht)

theorem retE_ok {fn : Func} {cf : Cf} {r : SV} {st' : St} (h : retE P fn cf = some (r, st')) (hc : CfOk U P ρ cf fr Hs) : st' = cf.st ∧ ∃ v, denV U ρ r v ∧ ∀ (I : Im) (F : List HProp) (a : Act) (w : World), FrRel I n fr a.tmps → SepG I (Hs ++ F) w → (results fn a.tmps).run P w = .ok v w := by
  have run : ∀ (vs : List Value) (I : Im) (F : List HProp) (a : Act) (w : World), (fn.results.toList.mapM fun | .tmp t => pure (a.tmps.getD t undef) | .cell b t => do loadVar t (← asAddr (a.tmps.getD b undef)) : Sem (List Value)).run P w = .ok vs w →
      (results fn a.tmps).run P w = .ok (if h : vs.toArray.size = 1 then vs.toArray[0] else .tuple vs.toArray) w := fun vs I F a w h => by
    unfold results
    rw [← Array.toArray_toList (xs := fn.results), List.mapM_toArray]
    rw [Sem.run_bind, map_eq_pure_bind, Sem.run_bind]
    erw [h]
    rfl
  unfold retE at h
  split at h
  · rename_i v hr
    cases h
    obtain ⟨vs, h1, h2⟩ := resE_ok (n := n) hc hr
    cases h1 with
    | cons h0 ht =>
      cases ht
      rename_i u
      exact ⟨rfl, u, h0, fun I F a w hA hw => by rw [run _ I F a w (h2 I F a w hA hw)]; simp⟩
  · rename_i l hne hr
    split at h
    · rename_i hnt
      cases h
      obtain ⟨vs, h1, h2⟩ := resE_ok (n := n) hc hr
      refine ⟨rfl, .tuple vs.toArray, ⟨vs, zip_B hnt h1, rfl⟩, fun I F a w hA hw => ?_⟩
      rw [run _ I F a w (h2 I F a w hA hw), dif_neg]
      have hl := zip_len h1
      intro hs1
      have : vs.length = 1 := by simpa using hs1
      match l, hl, hr, hne with
      | [x], _, hr, hne => exact hne x rfl
      | [], hl, _, _ => simp at hl; omega
      | _ :: _ :: _, hl, _, _ => simp at hl; omega
    · cases h
  · cases h
end
end Go.Ev

namespace Go.Ev
open Go Go.Ab
section
variable {U : Nat → Value} {P : Program}

theorem bind_get : ∀ (as : List SV) (k : Nat) (t : Tr SV) (j : Nat) (s : SV), (bindArgs k as t).get j = some s → t.get j = some s ∨ (k ≤ j ∧ as[j - k]? = some s)
  | [], k, t, j, s, h => .inl h
  | a :: as, k, t, j, s, h => by
    unfold bindArgs at h
    rcases bind_get as (k + 1) _ j s h with h | ⟨h1, h2⟩
    · rcases Tr.get_set _ _ _ _ _ _ h with ⟨rfl, h'⟩ | ⟨_, h'⟩
      · cases h'; exact .inr ⟨Nat.le_refl _, by simp⟩
      · exact .inl h'
    · exact .inr ⟨by omega, by rw [show j - k = (j - (k + 1)) + 1 from by omega]; simpa using h2⟩
theorem frOf_at : ∀ (l : List AV) (k j : Nat), k ≤ j → fget j (frOf k l) = l[j - k]?
  | [], k, j, _ => rfl
  | a :: l, k, j, h => by
    unfold frOf fget
    by_cases e : j = k
    · subst e; simp
    · have : Nat.beq j k = false := by rw [Bool.eq_false_iff]; exact fun e' => e (Nat.eq_of_beq_eq_true e')
      rw [this]
      simp only [cond_false]
      rw [frOf_at l (k + 1) j (by omega), show j - k = (j - (k + 1)) + 1 from by omega]
      simp
theorem bind_ok {ρ : Env} {as : List SV} {vs : List Value} (hz : Zip2 (denV U ρ) as vs) : FrOk U ρ (bindArgs 0 as .leaf).get (frOf 0 (vs.map .val)) := fun j s h => by
  rcases bind_get as 0 .leaf j s h with h | ⟨_, h⟩
  · cases h
  · obtain ⟨v, h1, h2⟩ := zip_get hz h
    exact ⟨v, by rw [frOf_at _ _ _ (Nat.zero_le _), List.getElem?_map]; rw [Nat.sub_zero] at h1 ⊢; rw [h1]; rfl, h2⟩
theorem rel_vals {I : Im} : ∀ {ws vs : List Value}, Zip2 (Rel I) ws (vs.map .val) → ws = vs
  | [], [], _ => rfl
  | [], _ :: _, h => by cases h
  | _ :: _, [], h => by cases h
  | w :: ws, v :: vs, .cons h t => by rw [h.val_eq, rel_vals t]
theorem vals_rel {I : Im} : ∀ (vs : List Value), Zip2 (Rel I) vs (vs.map .val)
  | [] => .nil
  | v :: vs => .cons (.val v) (vals_rel vs)

theorem call_ok {self : Nat → Code → Cf → Option (Ex × Cf)} (hself : ∀ n, SelfOk U P n (self n)) : CallOk U P (callE P self) := by
  intro f as st r st' h ρ Hs vs hs hz
  unfold callE at h
  split at h
  · rename_i fn hf
    split at h
    · rename_i body hb
      split at h
      · cases h
      · rename_i hn
        split at h
        · cases h
        · rename_i hle
          have hle' := Nat.le_of_ble_eq_true hle
          have fin : ∀ (e : Ex) (cf : Cf), self fn.ntmps body ⟨bindArgs 0 as .leaf, st⟩ = some (e, cf) → (exOf e = .normal ∨ exOf e = .ret) → retE P fn cf = some (r, st') →
              ACalls P f (vs.map .val) Hs fun a own' => ∃ ρ' v, ρ.le ρ' ∧ a = .val v ∧ SOk P ρ' st' own' ∧ denV U ρ' r v := by
            intro e cf hse he hret
            refine ⟨⟨fn, hf, hn, by rw [hb]; rfl⟩, fun F I w ws hsep hzw => ?_⟩
            have := rel_vals hzw; subst this
            refine calls_of_wp hf hb ?_
            have hlen := zip_len hz
            have hA := hself fn.ntmps _ _ _ _ hse ⟨I, []⟩
              (fun e' fr' Hs0 => (e' = .normal ∨ e' = .ret) ∧ ∃ ρ' Hs', ρ.le ρ' ∧ Hs0 = Hs' ++ F ∧ CfOk U P ρ' cf fr' Hs') F ρ (frOf 0 (ws.map .val)) Hs ⟨hs, bind_ok hz⟩
              (fun ρ' fr' Hs' hle hc => ⟨he, ρ', Hs', hle, rfl, hc⟩)
            refine wp_mono (hA.1 I _ w ⟨Im.le_refl I, hsep, ⟨?_, fun i a hi => ?_⟩, rfl⟩) ?_
            · simp; omega
            · obtain ⟨_, h2⟩ := frOf_get _ 0 i a hi
              rw [Nat.sub_zero, List.getElem?_map] at h2
              cases hv : ws[i]? with
              | none => rw [hv] at h2; cases h2
              | some v =>
                rw [hv] at h2; cases h2
                refine ⟨v, ?_, .val v⟩
                simp only
                rw [Array.getElem?_append_left (by have := lt_of_get hv; simpa using this)]
                simpa using hv
            · rintro e' a w' ⟨I', fr', Hs0, hs', he', ρ', Hs', hle2, rfl, hc⟩
              obtain ⟨h1, v, h2, h3⟩ := retE_ok (n := fn.ntmps) hret hc
              subst h1
              have last : a.defers = [] ∧ ∃ v, (results fn a.tmps).run P w' = .ok v w' ∧ ∃ I'' v' c own', Im.le I I'' ∧ SepG I'' (own' ++ F) w' ∧ (∃ ρ' v, ρ.le ρ' ∧ c = .val v ∧ SOk P ρ' cf.st own' ∧ denV U ρ' r v) ∧ Ending.returned v = .returned v' ∧ Rel I'' v' c :=
                ⟨hs'.nod, v, h3 I' F a w' hs'.frame hs'.sep, I', v, .val v, Hs', hs'.le, hs'.sep, ⟨ρ', v, hle2, rfl, hc.s, h2⟩, rfl, .val v⟩
              rcases he' with rfl | rfl <;> exact last
          split at h
          · rename_i cf hse; exact fin .normal cf hse (.inl rfl) h
          · rename_i cf hse; exact fin .ret cf hse (.inr rfl) h
          · cases h
    · cases h
  · cases h

/-- The evaluator is sound. -/
theorem ev_ok {dr : (FuncId → List SV → St → Res) → Nat → List Oper → Cf → Option Cf} (hdr : ∀ call, CallOk U P call → ∀ n, DrawOk U P n (dr call)) : ∀ k n, SelfOk U P n (ev P dr k n) := by
  intro k
  induction k with
  | zero => intro n c cf e cf' h; cases h
  | succ k ih => intro n; exact code_ok (call_ok ih) (hdr _ (call_ok ih) n) (ih n)

theorem run_ok {dr : (FuncId → List SV → St → Res) → Nat → List Oper → Cf → Option Cf} (hdr : ∀ call, CallOk U P call → ∀ n, DrawOk U P n (dr call)) (k : Nat) : CallOk U P (callE P (ev P dr k)) := call_ok (ev_ok hdr k)
end
end Go.Ev

namespace Go.Ev
open Go Go.Ab
section
variable {U : Nat → Value} {P : Program} {J : JD} {n : Nat} {fr : Fr} {Hs : List HProp} {ty : TypeId} {ps : String} {af : Array Edge} {gd : Option (Nat × Bool)} {d : Nat} {ρ : Env} {g : Get} {st : St}

/-- An operation that only looks: its value is fixed ahead. -/
def Pure1 (U : Nat → Value) (P : Program) (J : JD) (n : Nat) (fr : Fr) (Hs : List HProp) (ρ : Env) (d : Nat) (op : Op) (ty : TypeId) (ps : String) (af : Array Edge) (gd : Option (Nat × Bool)) (r : SV) : Prop :=
  ∃ v, denV U ρ r v ∧ ∀ (K : Fr → List HProp → Prop) (Φ : APost), K ((d, .val v) :: fr) Hs → AOp P J n ⟨some d, op, ty, ps, af, gd⟩ K Φ fr Hs

/-- Chunks turned about behind an operation. -/
theorem aop_back {o : Oper} {K : Fr → List HProp → Prop} {Φ : APost} {Hs0 : List HProp} (h : AOp P J n o (fun fr' Hs' => ∃ H, Hs'.Perm H ∧ K fr' H) AFalse fr Hs0) : AOp P J n o K Φ fr Hs0 := by
  intro F I a w hs next Q hn _
  refine h F I a w hs next Q (fun I' fr' Hs' a' w' h1 h2 h3 ⟨H, hp, hk⟩ => ?_) (fun _ _ _ _ _ _ _ hf => hf.elim)
  exact hn I' fr' H a' w' h1 h2 ⟨h3.le, HSub.perm (hp.append_right F) I' w' h3.sep, h3.frame, h3.nod⟩ hk

theorem nil_p {x : Operand} {r : SV} {st' : St} (h : nilE g st x = some (r, st')) (hd : Nat.blt d n = true) (hf : FrOk U ρ g fr) : st' = st ∧ Pure1 U P J n fr Hs ρ d (.nilCheck x) ty ps af gd r := by
  unfold nilE at h
  split at h
  · rename_i id off ha
    cases h
    obtain ⟨va, h1, h2⟩ := opd_ok hf ha
    have h2c := h2; obtain ⟨i, h3, rfl⟩ := h2c
    exact ⟨rfl, _, h2, fun K Φ hK => rNil hd h1 hK⟩
  · cases h
theorem move_p {x : Operand} {r : SV} (h : opd g x = some r) (hd : Nat.blt d n = true) (hf : FrOk U ρ g fr) : Pure1 U P J n fr Hs ρ d (.move x) ty ps af gd r :=
  let ⟨v, h1, h2⟩ := opd_ok hf h
  ⟨v, h2, fun _ _ hK => rMove hd h1 hK⟩
theorem assign_p {x : Operand} {r : SV} (h : opd g x = some r) (hd : Nat.blt d n = true) (hf : FrOk U ρ g fr) : Pure1 U P J n fr Hs ρ d (.assign x) ty ps af gd r :=
  let ⟨v, h1, h2⟩ := opd_ok hf h
  ⟨v, h2, fun _ _ hK => rAssign hd h1 hK⟩
theorem pick_p {c x y : Operand} {r : SV} {st' : St} (h : pickE g st c x y = some (r, st')) (hd : Nat.blt d n = true) (hf : FrOk U ρ g fr) : st' = st ∧ Pure1 U P J n fr Hs ρ d (.pick c x y) ty ps af gd r := by
  unfold pickE at h
  split at h
  · rename_i b hc
    obtain ⟨v, h1, h2⟩ := opd_ok hf hc
    cases h2.1
    split at h <;> obtain ⟨h3, rfl⟩ := pur_eq h <;> obtain ⟨u, h4, h5⟩ := opd_ok hf h3
    · exact ⟨rfl, u, h5, fun K Φ hK => rPickT hd h1 h4 hK⟩
    · exact ⟨rfl, u, h5, fun K Φ hK => rPickF hd h1 h4 hK⟩
  · cases h
theorem extract_p {x : Operand} {i : Nat} {r : SV} {st' : St} (h : extractE g st x i = some (r, st')) (hd : Nat.blt d n = true) (hf : FrOk U ρ g fr) : st' = st ∧ Pure1 U P J n fr Hs ρ d (.extract x i) ty ps af gd r := by
  unfold extractE at h
  split at h
  · rename_i l ha
    obtain ⟨hh, rfl⟩ := pur_eq h; replace h := hh; clear hh
    obtain ⟨va, h1, vs, hz, rfl⟩ := opd_ok hf ha
    obtain ⟨u, hu, hr⟩ := zip_get hz h
    have hr' : denV U ρ r u := by
      cases r <;> first | exact hr | exact hr.elim
    exact ⟨rfl, u, hr', fun K Φ hK => aop_val hd (fun _ _ a w hs => ⟨u, by simp [execOp, hs.frame.val h1, Instr.extract, hu], .val u⟩) hK⟩
  · cases h
theorem load_p {t : TypeId} {x : Operand} {r : SV} {st' : St} (h : loadE P g st t x = some (r, st')) (hd : Nat.blt d n = true) (hs : SOk P ρ st Hs) (hf : FrOk U ρ g fr) : st' = st ∧ Pure1 U P J n fr Hs ρ d (.load t x) ty ps af gd r := by
  obtain ⟨e, v, p, h1, h2, h3⟩ := loadE_run h hs hf
  refine ⟨e, v, h1, fun K Φ hK => aop_val hd (fun F I a w hA => ⟨v, ?_, .val v⟩) hK⟩
  simp [execOp, hA.frame.val h2, Instr.loadAt, Instr.sureAddr, h3 I F w hA.sep]
theorem fieldA_p {s : TypeId} {x : Operand} {f : Nat} {r : SV} {st' : St} (h : fieldAE P g st s x f = some (r, st')) (hd : Nat.blt d n = true) (hf : FrOk U ρ g fr) : st' = st ∧ Pure1 U P J n fr Hs ρ d (.fieldAddr s x f) ty ps af gd r := by
  unfold fieldAE at h
  split at h
  · rename_i id off ha
    obtain ⟨va, h1, i, hi, rfl⟩ := opd_ok hf ha
    split at h
    · rename_i o m hm
      split at h
      · cases h
      · rename_i m'
        cases h
        obtain ⟨fs, fd, h2, h3, rfl, h5⟩ := fieldT_ok hm
        obtain ⟨ii, hii, hsz⟩ := sizeT_info h5
        exact ⟨rfl, _, ⟨i, hi, rfl⟩, fun K Φ hK => rField ⟨fs, fd, ii, h2, h3, rfl, hii, by omega⟩ hd h1 hK⟩
    · cases h
  · cases h
theorem field_p {s : TypeId} {x : Operand} {f : Nat} {r : SV} {st' : St} (h : fieldE P g st s x f = some (r, st')) (hd : Nat.blt d n = true) (hf : FrOk U ρ g fr) : st' = st ∧ Pure1 U P J n fr Hs ρ d (.field s x f) ty ps af gd r := by
  unfold fieldE at h
  split at h
  · rename_i cs ha
    obtain ⟨va, h1, vs, hz, rfl⟩ := opd_ok hf ha
    split at h
    · rename_i fs hfs
      split at h
      · rename_i fd hfd
        obtain ⟨hh, rfl⟩ := pur_eq h; replace h := hh; clear hh
        obtain ⟨v, hv, hrun⟩ := part_run (U := U) h hz
        exact ⟨rfl, v, hv, fun K Φ hK => aop_val hd (fun _ I a w hA => ⟨v, by simp [execOp, hA.frame.val h1, Instr.field, run_underlying hfs, hfd, asAgg, hrun], .val v⟩) hK⟩
      · cases h
    · cases h
  · cases h


theorem indexA_p {t : TypeId} {x y : Operand} {r : SV} {st' : St} (h : indexAE P g st t x y = some (r, st')) (hd : Nat.blt d n = true) (hf : FrOk U ρ g fr) : st' = st ∧ Pure1 U P J n fr Hs ρ d (.indexAddr t x y) ty ps af gd r := by
  unfold indexAE at h
  split at h
  · rename_i yv hy
    split at h
    · rename_i i hi
      obtain ⟨vy, h1, h2⟩ := opd_ok hf hy
      obtain ⟨k, rfl⟩ := idx_ok hi h2
      split at h
      · rename_i xv hx
        obtain ⟨vx, h3, h4⟩ := opd_ok hf hx
        unfold idxAt at h
        split at h
        · rename_i e ht
          split at h
          · rename_i s hsz
            split at h
            · rename_i id off len kk opn
              split at h
              · rename_i hlt
                cases h
                obtain ⟨bi, hbi, rfl, _⟩ := h4
                have hlt' : i < len := by simpa [Nat.blt_eq] using hlt
                refine ⟨rfl, _, ⟨bi, hbi, rfl⟩, fun K Φ hK => aop_val hd (fun _ I a w hA => ⟨.pointer (some ⟨bi.b, off + i * s, none⟩), ?_, .val _⟩) hK⟩
                simp [execOp, hA.frame.val h3, hA.frame.val h1, Instr.indexAt, run_underlying ht, asIntOf, hlt', size_of hsz, addr_add]
              · cases h
            · cases h
          · cases h
        · rename_i len e ht
          split at h
          · rename_i s hsz
            split at h
            · rename_i id off
              split at h
              · rename_i hlt
                cases h
                obtain ⟨bi, hbi, rfl⟩ := h4
                have hlt' : i < len := by simpa [Nat.blt_eq] using hlt
                refine ⟨rfl, _, ⟨bi, hbi, rfl⟩, fun K Φ hK => aop_val hd (fun _ I a w hA => ⟨.pointer (some ⟨bi.b, off + i * s, none⟩), ?_, .val _⟩) hK⟩
                simp [execOp, hA.frame.val h3, hA.frame.val h1, Instr.indexAt, Instr.sureAddr, run_underlying ht, asIntOf, hlt', size_of hsz, addr_add]
              · cases h
            · cases h
          · cases h
        · cases h
      · cases h
    · cases h
  · cases h


theorem index_p {t : TypeId} {x y : Operand} {r : SV} {st' : St} (h : indexE P g st t x y = some (r, st')) (hd : Nat.blt d n = true) (hf : FrOk U ρ g fr) : st' = st ∧ Pure1 U P J n fr Hs ρ d (.index t x y) ty ps af gd r := by
  unfold indexE at h
  split at h
  · rename_i yv hy
    split at h
    · rename_i i hi
      obtain ⟨vy, h1, h2⟩ := opd_ok hf hy
      obtain ⟨k, rfl⟩ := idx_ok hi h2
      split at h
      · rename_i xv hx
        obtain ⟨vx, h3, h4⟩ := opd_ok hf hx
        obtain ⟨hh, rfl⟩ := pur_eq h; replace h := hh; clear hh
        unfold idxVal at h
        split at h
        · rename_i s
          split at h
          · rename_i ht
            split at h
            · rename_i b hb
              cases h
              cases h4.1
              refine ⟨rfl, _, den_int _ _, fun K Φ hK => rIndexS ht hd h3 h1 (by omega) (b := b) ?_ hK⟩
              have : s.data[i]? = some b := by simpa using hb
              rw [Int.toNat_natCast]
              exact this
            · cases h
          · cases h
        · rename_i cs
          obtain ⟨vs, hz, rfl⟩ := h4
          split at h
          · rename_i len e ht
            split at h
            · rename_i hlt
              split at h
              · rename_i s hsz
                have hlt' : i < len := by simpa [Nat.blt_eq] using hlt
                obtain ⟨v, hv, hrun⟩ := part_run (U := U) h hz
                exact ⟨rfl, v, hv, fun K Φ hK => aop_val hd (fun _ I a w hA => ⟨v, by simp [execOp, hA.frame.val h3, hA.frame.val h1, Instr.index, run_underlying ht, asIntOf, hlt', size_of hsz, hrun], .val v⟩) hK⟩
              · cases h
            · cases h
          · cases h
        · cases h
      · cases h
    · cases h
  · cases h


theorem conv_p {s t : TypeId} {x : Operand} {r : SV} {st' : St} (h : convE P g st s t x = some (r, st')) (hd : Nat.blt d n = true) (hf : FrOk U ρ g fr) : st' = st ∧ Pure1 U P J n fr Hs ρ d (.convert s t x) ty ps af gd r := by
  unfold convE at h
  split at h
  · rename_i k m ha
    obtain ⟨va, h1, h2⟩ := opd_ok hf ha
    split at h
    · rename_i k' ht
      split at h
      · rename_i ds hsr
        obtain ⟨hh, rfl⟩ := pur_eq h; replace h := hh; clear hh
        cases h
        cases h2.1
        exact ⟨rfl, _, den_int _ _, fun K Φ hK => rConv (by rw [hsr]; rfl) ht hd h1 (wrapF_eq _ _).symm hK⟩
      · cases h
    · cases h
  · cases h


theorem unOp_p {op : UnOp} {t : TypeId} {x : Operand} {r : SV} {st' : St} (h : unOpE g st op x = some (r, st')) (hd : Nat.blt d n = true) (hf : FrOk U ρ g fr) : st' = st ∧ Pure1 U P J n fr Hs ρ d (.unOp op t x) ty ps af gd r := by
  unfold unOpE at h
  split at h
  · rename_i a ha
    obtain ⟨hh, rfl⟩ := pur_eq h; replace h := hh; clear hh
    obtain ⟨va, h1, h2⟩ := opd_ok hf ha
    unfold unE at h
    split at h
    · cases h2.1; cases h; exact ⟨rfl, _, den_bool _, fun K Φ hK => rNot hd h1 hK⟩
    · cases h2.1; cases h; exact ⟨rfl, _, den_int _ _, fun K Φ hK => rNeg hd h1 (wrapF_eq _ _).symm hK⟩
    · cases h2.1; cases h; exact ⟨rfl, _, den_int _ _, fun K Φ hK => rXorU hd h1 (bitsF_eq _ _ _ _).symm hK⟩
    · cases h
  · cases h

theorem build_p {t : TypeId} {parts : Array (Nat × Operand)} {r : SV} {st' : St} (h : buildE P g st t parts.toList = some (r, st')) (hd : Nat.blt d n = true) (hf : FrOk U ρ g fr) : st' = st ∧ Pure1 U P J n fr Hs ρ d (.build t parts) ty ps af gd r := by
  unfold buildE at h
  split at h
  · rename_i s z hz
    obtain ⟨zv, by_, hT, rfl, hall⟩ := zero_of hz
    split at h
    · rename_i hpt
      split at h
      · rename_i cs hc
        cases h
        -- the value does not hang on the run
        have hvals : ∃ vs : List Value, Zip2 (den ρ) cs vs ∧ ∀ (I : Im) (a : Act) (w : World), FrRel I n fr a.tmps → (Instr.build t (parts.map fun x => (x.1, a.eval x.2))).run P w = .ok (.agg vs.toArray) w := by
          unfold partsT at hpt
          split at hpt
          · rename_i fs hu
            obtain ⟨pl, p1, p2⟩ := places_run (P := P) fs.toList hpt
            obtain ⟨vs, f1, f2, f3⟩ := fill_ok (n := n) (part := partAt P t) (place := (pl.toArray[·]?)) hf (fun k x hx => by
              unfold partAt at hx
              rw [hu] at hx
              simp only at hx
              split at hx
              · rename_i fd hfd
                split at hx
                · rename_i s hs
                  cases hx
                  simpa using p2 k fd s (by simpa using hfd) hs
                · cases hx
              · cases hx) _ _ _ _ hc (zip_v hall)
            refine ⟨vs, f1, fun I a w hA => ?_⟩
            have p1' : (fs.mapM fun f => do pure (f.offset, ← sizeOf f.type) : Sem (Array (Nat × Nat))).run P w = .ok pl.toArray w := by
              rw [← Array.toArray_toList (xs := fs), List.mapM_toArray, map_eq_pure_bind, Sem.run_bind, p1]
              rfl
            have f3' := f3 I a hA
            simp only [Instr.build, Sem.run_bind, hT.zero, Result.andThen_ok, run_underlying hu, p1', Array.toList_map]
            simp only [Array.toArray_toList] at f3'
            rw [f3']
            rfl
          · rename_i nn e hu
            split at hpt
            · rename_i s hs
              obtain ⟨vs, f1, f2, f3⟩ := fill_ok (n := n) (part := partAt P t) (place := fun i => some (i * s, s)) hf (fun k x hx => by
                unfold partAt at hx
                rw [hu] at hx
                simp only [hs] at hx
                exact hx) _ _ _ _ hc (zip_v hall)
              refine ⟨vs, f1, fun I a w hA => ?_⟩
              have f3' := f3 I a hA
              simp only [Instr.build, Sem.run_bind, hT.zero, Result.andThen_ok, run_underlying hu, size_of hs, Array.toList_map]
              simp only [Array.toArray_toList] at f3'
              rw [f3']
              rfl
            · cases hpt
          · cases hpt
        obtain ⟨vs, h1, h2⟩ := hvals
        exact ⟨rfl, _, ⟨vs, h1, rfl⟩, fun K Φ hK => aop_val hd (fun F I a w hA => ⟨.agg vs.toArray, by simp [execOp, h2 I a w hA.frame], .val _⟩) hK⟩
      · cases h
    · cases h
  · cases h


theorem makeFunc_p {fn : Fn} {first captured : Array Operand} {r : SV} {st' : St} (h : makeFuncE g st fn first.toList captured.toList = some (r, st')) (hd : Nat.blt d n = true) (hf : FrOk U ρ g fr) : st' = st ∧ Pure1 U P J n fr Hs ρ d (.makeFunc fn first captured) ty ps af gd r := by
  unfold makeFuncE at h
  split at h
  · rename_i a ha
    split at h
    · rename_i b hb
      split at h
      · rename_i a' ha'
        split at h
        · rename_i b' hb'
          split at h
          · rename_i hl
            cases h
            simp only [Bool.and_eq_true] at hl
            obtain ⟨va, h1, h2⟩ := opds_ok hf ha
            obtain ⟨vb, h3, h4⟩ := opds_ok hf hb
            refine ⟨rfl, _, ⟨va, vb, leaves_ok hl.1 (ones_ok ha' h2), leaves_ok hl.2 (ones_ok hb' h4), rfl⟩, fun K Φ hK => aop_val hd (fun _ I a w hA => ⟨.func fn va.toArray vb.toArray, ?_, .val _⟩) hK⟩
            have e1 : first.map a.eval = va.toArray := by rw [← evals hA.frame h1, ← List.map_toArray, Array.toArray_toList]
            have e2 : captured.map a.eval = vb.toArray := by rw [← evals hA.frame h3, ← List.map_toArray, Array.toArray_toList]
            simp [execOp, Instr.makeFunc, e1, e2]
          · cases h
        · cases h
      · cases h
    · cases h
  · cases h

end
end Go.Ev

namespace Go.Ev
open Go Go.Ab
section
variable {U : Nat → Value} {P : Program} {J : JD} {n : Nat} {fr : Fr} {Hs : List HProp} {ty : TypeId} {ps : String} {af : Array Edge} {gd : Option (Nat × Bool)} {d : Nat} {ρ : Env} {g : Get} {st : St}
theorem slice_p {t : TypeId} {x : Operand} {lo hi mx : Option Operand} {r : SV} {st' : St} (h : sliceE P g st t x lo hi mx = some (r, st')) (hd : Nat.blt d n = true) (hf : FrOk U ρ g fr) : st' = st ∧ Pure1 U P J n fr Hs ρ d (.slice t x lo hi mx) ty ps af gd r := by
  unfold sliceE at h
  split at h
  · rename_i xv hx
    obtain ⟨vx, h1, h2⟩ := opd_ok hf hx
    obtain ⟨hh, rfl⟩ := pur_eq h; replace h := hh; clear hh
    refine ⟨rfl, ?_⟩
    unfold slE at h
    split at h
    · rename_i e ht
      split at h
      · cases h
      · rename_i size hsz
        split at h
        · rename_i id off len k opn
          obtain ⟨i, hi', hv, hlen⟩ := h2
          subst hv
          split at h
          · split at h
            · cases h
            · -- open
              unfold slO at h
              split at h
              · rename_i l hh m hb
                simp only [if_true] at hlen
                split at h
                · rename_i hlt
                  cases h
                  have hlt' : l < len := by simpa [Nat.blt_eq] using hlt
                  obtain ⟨b1, b2, b3, b4⟩ := bounds_le hb
                  refine ⟨(.slice (some ⟨i.b, off + l * size, none⟩) (hh - l) (i.cap - k - l)), ⟨i, hi', by simp [Nat.sub_sub], by simp; omega⟩, fun K Φ hK => aop_val hd (c := .val (.slice (some ⟨i.b, off + l * size, none⟩) (hh - l) (i.cap - k - l))) (fun F I a w hA => ⟨_, ?_, .val _⟩) hK⟩
                  obtain ⟨c1, c2, c3, c4, c5⟩ := bounds_ok hf hb (.inl ⟨rfl, hlen⟩) true hA.frame w
                  have hne : ¬ i.cap - k = l := by omega
                  simp only [Option.isSome_none, Bool.false_eq_true, if_false, Option.map_none] at c4
                  simp [execOp, hA.frame.val h1, Instr.sliceAt, Instr.slice, run_underlying ht, size_of hsz, addr_add]
                  rw [c4]; simp [hne]
                · rename_i hlt
                  cases h
                  have hlt' : ¬ l < len := by
                    intro h; have : Nat.blt l len = true := by simpa [Nat.blt_eq] using h
                    rw [this] at hlt; cases hlt
                  refine ⟨(.slice (some (if i.cap - k = l then ⟨i.b, off, none⟩ else ⟨i.b, off + l * size, none⟩)) 0 (i.cap - k - l)), ⟨_, _, rfl⟩, fun K Φ hK => aop_val hd (c := .val (.slice (some (if i.cap - k = l then ⟨i.b, off, none⟩ else ⟨i.b, off + l * size, none⟩)) 0 (i.cap - k - l))) (fun F I a w hA => ⟨_, ?_, .val _⟩) hK⟩
                  obtain ⟨b1, b2, b3, b4⟩ := bounds_le hb
                  obtain ⟨c1, c2, c3, c4, c5⟩ := bounds_ok hf hb (.inl ⟨rfl, hlen⟩) true hA.frame w
                  have := c5 rfl
                  have e1 : hh - l = 0 := by omega
                  simp only [Option.isSome_none, Bool.false_eq_true, if_false, Option.map_none] at c4
                  simp [execOp, hA.frame.val h1, Instr.sliceAt, Instr.slice, run_underlying ht, size_of hsz, addr_add]
                  rw [c4]; simp [e1]; split <;> rfl
              · cases h
          · -- known
            obtain ⟨l, hh, m, hb, rfl⟩ := slK_ok h
            simp only [Bool.false_eq_true, if_false] at hlen h1 ⊢
            refine ⟨(.slice (some ⟨i.b, if m = l then off else off + l * size, none⟩) (hh - l) (m - l)), ?_, fun K Φ hK => aop_val hd (c := .val (.slice (some ⟨i.b, if m = l then off else off + l * size, none⟩) (hh - l) (m - l))) (fun F I a w hA => ⟨_, ?_, .val _⟩) hK⟩
            rotate_left
            · obtain ⟨c1, c2, c3, c4, c5⟩ := bounds_ok hf hb (.inr rfl) true hA.frame w
              have hm : (if mx.isSome = true then m else k) = m := by
                cases mx with
                | none => simp; exact (c5 rfl).symm
                | some z => simp
              rw [hm] at c4
              simp [execOp, hA.frame.val h1, Instr.sliceAt, Instr.slice, run_underlying ht, size_of hsz, addr_add]
              rw [c4]; by_cases e : m = l <;> simp [e]
            · obtain ⟨b1, b2, b3, b4⟩ := bounds_le hb
              exact ⟨i, hi', by simp, by simp; omega⟩
        · cases h2.1
          unfold slN at h
          split at h
          · rename_i b hb
            obtain ⟨l, hh, m⟩ := b
            cases h
            obtain ⟨b1, b2, b3, b4⟩ := bounds_le hb
            refine ⟨(.slice none 0 0), ⟨rfl, rfl⟩, fun K Φ hK => aop_val hd (c := .val (.slice none 0 0)) (fun F I a w hA => ⟨_, ?_, .val _⟩) hK⟩
            obtain ⟨c1, c2, c3, c4, c5⟩ := bounds_ok hf hb (.inr rfl) true hA.frame w
            have e1 : l = 0 := by omega
            have e2 : hh = 0 := by omega
            have e3 : m = 0 := by omega
            subst e1; subst e2; subst e3
            have e4 : (if mx.isSome = true then 0 else 0) = 0 := by split <;> rfl
            rw [e4] at c4
            simp [execOp, hA.frame.val h1, Instr.sliceAt, Instr.slice, run_underlying ht, size_of hsz]
            rw [c4]; simp
          · cases h
        · cases h
    · rename_i nn e ht
      split at h
      · cases h
      · rename_i size hsz
        split at h
        · rename_i id off
          obtain ⟨i, hi', rfl⟩ := h2
          obtain ⟨l, hh, m, hb, rfl⟩ := slK_ok h
          obtain ⟨b1, b2, b3, b4⟩ := bounds_le hb
          refine ⟨(.slice (some ⟨i.b, if m = l then off else off + l * size, none⟩) (hh - l) (m - l)), ⟨i, hi', by simp, by simp; omega⟩, fun K Φ hK => aop_val hd (c := .val (.slice (some ⟨i.b, if m = l then off else off + l * size, none⟩) (hh - l) (m - l))) (fun F I a w hA => ⟨_, ?_, .val _⟩) hK⟩
          obtain ⟨c1, c2, c3, c4, c5⟩ := bounds_ok hf hb (.inr rfl) false hA.frame w
          have hm : (if mx.isSome = true then m else nn) = m := by
            cases mx with
            | none => simp; exact (c5 rfl).symm
            | some z => simp
          rw [hm] at c4
          simp [execOp, hA.frame.val h1, Instr.sliceAt, Instr.sureAddr, run_underlying ht, size_of hsz, addr_add]
          rw [c4]; by_cases e : m = l <;> simp [e]
        · cases h
    · cases h
  · cases h
end
end Go.Ev

namespace Go.Ev
open Go Go.Ab
section
variable {U : Nat → Value} {P : Program} {J : JD} {n : Nat} {fr : Fr} {Hs : List HProp} {ty : TypeId} {ps : String} {af : Array Edge} {gd : Option (Nat × Bool)} {d : Nat} {ρ : Env} {g : Get} {st : St}

theorem arithE_shape {op : BinOp} {k : IntKind} {a b : Int} {r : SV} (h : arithE op k a b = some r) : ∃ x, r = .one (.v x) ∧ x.oneCell' = true := by
  cases op <;> simp only [arithE, ri, rb, quoE, remE] at h
  case quo => split at h <;> cases h; exact ⟨_, rfl, rfl⟩
  case rem => split at h <;> cases h; exact ⟨_, rfl, rfl⟩
  all_goals first | (cases h; exact ⟨_, rfl, rfl⟩) | cases h
theorem intE_shape {op : BinOp} {k j : IntKind} {a b : Int} {r : SV} (h : intE op k a j b = some r) : ∃ x, r = .one (.v x) ∧ x.oneCell' = true := by
  unfold intE at h
  split at h
  · unfold shlE at h; split at h <;> cases h; exact ⟨_, rfl, rfl⟩
  · unfold shrE at h
    split at h
    · unfold shrN at h; split at h <;> cases h; exact ⟨_, rfl, rfl⟩
    · unfold shrZ at h; split at h <;> cases h; exact ⟨_, rfl, rfl⟩
  · split at h
    · cases h
    · exact arithE_shape h
/-- Where the value is plain, it is fixed. -/
theorem pure_of_v {op : Op} {r : SV} {x : Value} (hr : r = .one (.v x)) (hx : x.oneCell' = true) (h : ∀ (K : Fr → List HProp → Prop) (Φ : APost), (∀ v, denV U ρ r v → K ((d, .val v) :: fr) Hs) → AOp P J n ⟨some d, op, ty, ps, af, gd⟩ K Φ fr Hs) : Pure1 U P J n fr Hs ρ d op ty ps af gd r := by
  subst hr
  exact ⟨x, ⟨rfl, hx⟩, fun K Φ hK => h K Φ fun v hv => by rw [hv.1]; exact hK⟩
theorem vsNil_shape {op : BinOp} {r : SV} {b : Bool} (h : byBool op b = some r) : ∃ x, r = .one (.v x) ∧ x.oneCell' = true := by
  rcases byBool_ok h with ⟨_, rfl⟩ | ⟨_, rfl⟩ <;> exact ⟨_, rfl, rfl⟩

theorem binOp_p {op : BinOp} {t u : TypeId} {x y : Operand} {r : SV} {st' : St} (h : binOpE P g st op t x y = some (r, st')) (hd : Nat.blt d n = true) (hf : FrOk U ρ g fr) : st' = st ∧ Pure1 U P J n fr Hs ρ d (.binOp op t x y u) ty ps af gd r := by
  unfold binOpE at h
  split at h
  · rename_i a ha
    split at h
    · rename_i b hb
      obtain ⟨hh, rfl⟩ := pur_eq h; replace h := hh; clear hh
      obtain ⟨va, h1, h2⟩ := opd_ok hf ha
      obtain ⟨vb, h3, h4⟩ := opd_ok hf hb
      refine ⟨rfl, ?_⟩
      unfold binE at h
      split at h
      · cases h2.1
        unfold binI at h
        split at h
        · cases h4.1
          obtain ⟨x', e1, e2⟩ := intE_shape h
          exact pure_of_v e1 e2 fun K Φ hK => int_ok h hd h1 h3 hK
        · cases h
      · obtain ⟨i, _, rfl⟩ := h2
        have hsh : ∃ x, r = .one (.v x) ∧ x.oneCell' = true := by
          unfold vsNilP at h; split at h
          · split at h
            · exact vsNil_shape h
            · cases h
          · cases h
        obtain ⟨x', e1, e2⟩ := hsh
        exact pure_of_v e1 e2 fun K Φ hK => vsNilP_ok h hd h1 h3 h4 hK
      · obtain ⟨i, _, rfl, _⟩ := h2
        have hsh : ∃ x, r = .one (.v x) ∧ x.oneCell' = true := by
          unfold vsNilS at h; split at h
          · split at h
            · exact vsNil_shape h
            · cases h
          · cases h
        obtain ⟨x', e1, e2⟩ := hsh
        exact pure_of_v e1 e2 fun K Φ hK => vsNilS_ok h hd h1 h3 h4 hK
      · obtain ⟨p, c, rfl⟩ := h2
        have hsh : ∃ x, r = .one (.v x) ∧ x.oneCell' = true := by
          unfold vsNilS at h; split at h
          · split at h
            · exact vsNil_shape h
            · cases h
          · cases h
        obtain ⟨x', e1, e2⟩ := hsh
        exact pure_of_v e1 e2 fun K Φ hK => vsNilS_ok h hd h1 h3 h4 hK
      · unfold binC at h
        split at h
        · rename_i u1 hu1
          split at h
          · rename_i v1 hv1
            split at h
            · rename_i r1 hr1
              cases closed_ok hu1 h2
              cases closed_ok hv1 h4
              exact ⟨r1, cst_ok h, fun K Φ hK => rBin hd h1 h3 (semPure_ok _ _ _ hr1) hK⟩
            · cases h
          · cases h
        · cases h
    · cases h
  · cases h
end
end Go.Ev

namespace Go.Ev
open Go Go.Ab
section
variable {U : Nat → Value} {P : Program} {J : JD} {n : Nat} {fr : Fr} {Hs : List HProp} {ty : TypeId} {ps : String} {af : Array Edge} {gd : Option (Nat × Bool)} {d : Nat} {ρ : Env} {g : Get} {st : St}

theorem lookup_p {t : TypeId} {x y : Operand} {ok : Bool} {r : SV} {st' : St} (h : lookupE P g st t x y ok = some (r, st')) (hd : Nat.blt d n = true) (hs : SOk P ρ st Hs) (hf : FrOk U ρ g fr) : st' = st ∧ Pure1 U P J n fr Hs ρ d (.lookup t x y ok) ty ps af gd r := by
  unfold lookupE at h
  split at h
  · rename_i id hx
    obtain ⟨vx, h1, i, hi, rfl⟩ := opd_ok hf hx
    split at h
    · rename_i ck hg
      split at h
      · rename_i yv hy
        obtain ⟨vy, h2, h3⟩ := opd_ok hf hy
        split at h
        · rename_i kv hkv
          cases closed_ok hkv h3
          obtain ⟨k, Hs', hp, ho, _, _⟩ := hs.h.get hg
          obtain ⟨i', hi', rfl⟩ := ho
          rw [hi] at hi'; cases hi'
          unfold lookE at h
          split at h
          · rename_i key e ht
            split at h
            · rename_i u hu
              have hck := semPure_ok _ _ _ hu
              split at h
              · rename_i ii hii
                split at h
                · rename_i z hz
                  split at h
                  · rename_i sv hsv
                    split at h
                    · rename_i dk hdk
                      have hrun : ∀ (F : List HProp) (I : Im) (a : Act) (w : World), AState J I n fr (Hs ++ F) a w → (Instr.lookup t (.map (some i.b)) vy ok).run P w = .ok (if ok then .tuple #[z, .bool false] else z) w := fun F I a w hA => by
                        have hsep := HSub.perm (hp.append_right F) I w hA.sep
                        obtain ⟨L, hL, hG⟩ := hsep
                        cases hL with
                        | cons h1 h2 =>
                          cases h1
                          obtain ⟨ents, he, hz0⟩ := hG.ob i.b (.map [] ck) (by simp)
                          have hents : ents = #[] := by
                            have : ents.toList = [] := by generalize ents.toList = l at hz0; cases hz0; rfl
                            simpa using this
                          subst hents
                          have hgo : (getObj i.b).run P w = .ok (.map #[] ck) w := by simp [getObj, Sem.run, he]
                          have hk := hck w
                          cases ok <;> simp [Instr.lookup, run_underlying ht, hgo, hk, Instr.findKey, Instr.findNow, run_underlying hdk, zeroValue, typeInfo, hii, hz]
                      cases ok with
                      | true =>
                        cases h
                        refine ⟨rfl, .tuple #[z, .bool false], ⟨[z, .bool false], .cons (cst_okB hsv) (.cons ⟨rfl, rfl⟩ .nil), rfl⟩, fun K Φ hK => aop_val hd (fun F I a w hA => ⟨_, ?_, .val _⟩) hK⟩
                        have := hrun F I a w hA
                        simp [execOp, hA.frame.val h1, hA.frame.val h2, this]
                      | false =>
                        cases h
                        refine ⟨rfl, z, cst_ok hsv, fun K Φ hK => aop_val hd (fun F I a w hA => ⟨_, ?_, .val _⟩) hK⟩
                        have := hrun F I a w hA
                        simp [execOp, hA.frame.val h1, hA.frame.val h2, this]
                    · cases h
                  · cases h
                · cases h
              · cases h
            · cases h
          · cases h
        · cases h
      · cases h
    · cases h
  · cases h

/-- The builtins that only look. -/
def lookB : Builtin → Bool
  | .len | .min | .max => true
  | _ => false

theorem lenE_shape {ats : List TypeId} {xv r : SV} (h : lenE P st ats xv = some r) : ∃ x, r = .one (.v x) ∧ x.oneCell' = true := by
  unfold lenE at h
  split at h
  · split at h
    · split at h <;> cases h <;> exact ⟨_, rfl, rfl⟩
    · split at h <;> cases h; exact ⟨_, rfl, rfl⟩
    · cases h
  · cases h
theorem minE_shape {b : Bool} {x y r : SV} (h : minE b x y = some r) : ∃ x, r = .one (.v x) ∧ x.oneCell' = true := by
  unfold minE at h
  split at h
  · split at h
    · split at h
      · split at h <;> cases h <;> exact ⟨_, rfl, rfl⟩
      · cases h
    · cases h
  · cases h

theorem built_p {b : Builtin} (hb : lookB b = true) {args : Array Operand} {ats : Array TypeId} {as : List SV} {r : SV} {st' : St} (ha : opds g args.toList = some as) (h : builtE P st b ats as = some (r, st')) (hd : Nat.blt d n = true) (hf : FrOk U ρ g fr) :
    st' = st ∧ Pure1 U P J n fr Hs ρ d (.call ⟨.builtin b, args, ats⟩) ty ps af gd r := by
  have args_eq : ∀ l, args.toList = l → args = l.toArray := fun l e => by rw [← e, Array.toArray_toList]
  unfold builtE at h
  split at h
  · split at h
    · rename_i xv
      obtain ⟨x, hx, hxv⟩ := opds_one ha
      obtain ⟨hh, rfl⟩ := pur_eq h; replace h := hh; clear hh
      obtain ⟨vx, h1, h2⟩ := opd_ok hf hxv
      rw [args_eq _ hx]
      refine ⟨rfl, ?_⟩
      obtain ⟨x', e1, e2⟩ := lenE_shape h
      unfold lenE at h
      split at h
      · rename_i t hats
        have hats' : ats = #[t] := by rw [← Array.toArray_toList (xs := ats), hats]
        subst hats'
        split at h
        · rename_i e ht
          have key : ∀ b l c, vx = .slice b l c → r = .one (.v (.int .i64 (.ofNat l))) → Pure1 U P J n fr Hs ρ d (.call ⟨.builtin .len, #[x], #[t]⟩) ty ps af gd r := fun b l c e1 e2 => by
            subst e1; subst e2
            exact ⟨_, ⟨rfl, rfl⟩, fun K Φ hK => rBuiltin_val hd (fun _ I a w hA => ⟨.int .i64 (.ofNat l), fun _ => by simp [builtin, Builtin.len_, run_underlying ht, hA.frame.val h1, goInt], .val _⟩) hK⟩
          split at h
          · cases h; obtain ⟨i, _, rfl, _⟩ := h2; exact key _ _ _ rfl rfl
          · cases h; obtain ⟨a, c, rfl⟩ := h2; exact key _ _ _ rfl rfl
          · cases h; cases h2.1; exact key _ _ _ rfl rfl
          · cases h
        · split at h
          · rename_i s ht
            cases h; cases h2.1
            exact ⟨_, ⟨rfl, rfl⟩, fun K Φ hK => rLenS ‹_› hd h1 hK⟩
          · cases h
        · cases h
      · cases h
    · cases h
  · cases hb
  · split at h
    · rename_i xv yv h2
      obtain ⟨x, y, hxy, hx, hy⟩ := opds_two ha h2
      obtain ⟨vx, h3, h4⟩ := opd_ok hf hx
      obtain ⟨vy, h5, h6⟩ := opd_ok hf hy
      rw [args_eq _ hxy]
      obtain ⟨hh, rfl⟩ := pur_eq h; replace h := hh; clear hh
      unfold minE at h
      split at h
      · split at h
        · split at h
          · rename_i hk
            have := kn_inj hk; subst this
            cases h4.1; cases h6.1
            simp only [ri] at h
            cases h
            exact ⟨rfl, .int _ (min _ _), by
              rw [ltF_eq]
              refine ⟨?_, rfl⟩
              congr 1
              split <;> rename_i e <;> simp at e <;> omega, fun K Φ hK => rMin hd h3 h5 hK⟩
          · cases h
        · cases h
      · cases h
    · cases h
  · split at h
    · rename_i xv yv h2
      obtain ⟨x, y, hxy, hx, hy⟩ := opds_two ha h2
      obtain ⟨vx, h3, h4⟩ := opd_ok hf hx
      obtain ⟨vy, h5, h6⟩ := opd_ok hf hy
      rw [args_eq _ hxy]
      obtain ⟨hh, rfl⟩ := pur_eq h; replace h := hh; clear hh
      unfold minE at h
      split at h
      · split at h
        · split at h
          · rename_i hk
            have := kn_inj hk; subst this
            cases h4.1; cases h6.1
            simp only [ri] at h
            cases h
            exact ⟨rfl, .int _ (max _ _), by
              rw [ltF_eq]
              refine ⟨?_, rfl⟩
              congr 1
              split <;> rename_i e <;> simp at e <;> omega, fun K Φ hK => rMax hd h3 h5 hK⟩
          · cases h
        · cases h
      · cases h
    · cases h
  · cases h
end
end Go.Ev

namespace Go.Ev
open Go Go.Ab
noncomputable section
section
def lookCallee : Callee → Bool
  | .builtin b => lookB b
  | _ => false
/-- The operations that only look. -/
def lookOp : Op → Bool
  | .move _ | .assign _ | .pick .. | .binOp .. | .unOp .. | .convert .. | .build .. | .load .. | .nilCheck .. | .fieldAddr .. | .field .. | .indexAddr .. | .index .. | .extract .. | .slice .. | .makeFunc .. | .lookup .. => true
  | .call c => lookCallee c.callee
  | _ => false

variable {U : Nat → Value} {P : Program} {J : JD} {n : Nat} {fr : Fr} {Hs : List HProp} {ty : TypeId} {ps : String} {af : Array Edge} {gd : Option (Nat × Bool)} {d : Nat} {ρ : Env} {g : Get} {st : St}
theorem pure_p {call : FuncId → List SV → St → Res} {o : Op} (ho : lookOp o = true) {r : SV} {st' : St} (h : opE P call g st o = some (r, st')) (hd : Nat.blt d n = true) (hs : SOk P ρ st Hs) (hf : FrOk U ρ g fr) : st' = st ∧ Pure1 U P J n fr Hs ρ d o ty ps af gd r := by
  cases o <;> simp only [opE] at h
  case move x => obtain ⟨hh, rfl⟩ := pur_eq h; exact ⟨rfl, move_p hh hd hf⟩
  case assign x => obtain ⟨hh, rfl⟩ := pur_eq h; exact ⟨rfl, assign_p hh hd hf⟩
  case pick => exact pick_p h hd hf
  case build => exact build_p h hd hf
  case load => exact load_p h hd hs hf
  case nilCheck => exact nil_p h hd hf
  case binOp => exact binOp_p h hd hf
  case unOp => exact unOp_p h hd hf
  case convert => exact conv_p h hd hf
  case makeFunc => exact makeFunc_p h hd hf
  case slice => exact slice_p h hd hf
  case fieldAddr => exact fieldA_p h hd hf
  case field => exact field_p h hd hf
  case indexAddr => exact indexA_p h hd hf
  case index => exact index_p h hd hf
  case lookup => exact lookup_p h hd hs hf
  case extract => exact extract_p h hd hf
  case call c =>
    obtain ⟨callee, args, ats⟩ := c
    cases callee <;> first | (cases ho; done) | skip
    unfold callOE at h
    split at h
    · rename_i as ha
      exact built_p ho ha h hd hf
    · cases h
  all_goals cases ho
/-- Those that do not look at memory. -/
def freeOp : Op → Bool
  | .load .. | .lookup .. => false
  | _ => true
theorem pure2_p {call : FuncId → List SV → St → Res} {o : Op} (ho : lookOp o = true) (ho2 : freeOp o = true) {r : SV} {st' : St} (h : opE P call g st o = some (r, st')) (hd : Nat.blt d n = true) (hf : FrOk U ρ g fr) : st' = st ∧ Pure1 U P J n fr Hs ρ d o ty ps af gd r := by
  cases o <;> simp only [opE] at h
  case move x => obtain ⟨hh, rfl⟩ := pur_eq h; exact ⟨rfl, move_p hh hd hf⟩
  case assign x => obtain ⟨hh, rfl⟩ := pur_eq h; exact ⟨rfl, assign_p hh hd hf⟩
  case pick => exact pick_p h hd hf
  case build => exact build_p h hd hf
  case nilCheck => exact nil_p h hd hf
  case binOp => exact binOp_p h hd hf
  case unOp => exact unOp_p h hd hf
  case convert => exact conv_p h hd hf
  case makeFunc => exact makeFunc_p h hd hf
  case slice => exact slice_p h hd hf
  case fieldAddr => exact fieldA_p h hd hf
  case field => exact field_p h hd hf
  case indexAddr => exact indexA_p h hd hf
  case index => exact index_p h hd hf
  case extract => exact extract_p h hd hf
  case load => cases ho2
  case lookup => cases ho2
  case call c =>
    obtain ⟨callee, args, ats⟩ := c
    cases callee <;> first | (cases ho; done) | skip
    unfold callOE at h
    split at h
    · rename_i as ha
      exact built_p ho ha h hd hf
    · cases h
  all_goals cases ho
end

-- the plan
def tmpsO : Operand → List Nat
  | .tmp t => [t]
  | _ => []
def tmpsM : Option Operand → List Nat
  | some x => tmpsO x
  | none => []
def tmpsL : List Operand → List Nat
  | [] => []
  | x :: r => tmpsO x ++ tmpsL r
def tmpsP : List (Nat × Operand) → List Nat
  | [] => []
  | (_, x) :: r => tmpsO x ++ tmpsP r
def tmpsOf : Op → List Nat
  | .move x | .assign x | .load _ x | .nilCheck x | .fieldAddr _ x _ | .field _ x _ | .unOp _ _ x | .convert _ _ x | .extract x _ | .box _ x => tmpsO x
  | .pick a b c => tmpsO a ++ tmpsO b ++ tmpsO c
  | .binOp _ _ x y _ | .store _ x y | .indexAddr _ x y | .index _ x y | .lookup _ x y _ => tmpsO x ++ tmpsO y
  | .build _ ps | .buildSlice _ _ ps => tmpsP ps.toList
  | .slice _ x lo hi mx => tmpsO x ++ tmpsM lo ++ tmpsM hi ++ tmpsM mx
  | .makeFunc _ a b => tmpsL a.toList ++ tmpsL b.toList
  | .call c => (match c.callee with | .value f => tmpsO f | _ => []) ++ tmpsL c.args.toList
  | _ => []

def maskE (Bs : List Nat) : List Edge → Nat → Nat
  | [], m => m
  | e :: r, m => match Region.binds .any e with
    | true => maskE Bs r (Nat.lor m (Nat.lor (2 ^ e.on) (Bs.getD e.on 0)))
    | false => maskE Bs r m
def bsE : List Oper → List Nat → List Nat
  | [], Bs => Bs
  | o :: r, Bs => bsE r (Bs ++ [maskE Bs o.after.toList 0])

/-- Who makes a temporary. -/
def makerE (t : Nat) : List Oper → Nat → Option Nat
  | [], _ => none
  | o :: r, k => match o.dst with
    | some d => match Nat.beq d t with
      | true => some k
      | false => makerE t r (k + 1)
    | none => makerE t r (k + 1)
def lkE (L : List Oper) (B : Nat) : List Nat → Lk
  | [] => []
  | t :: r => match makerE t L 0 with
    | some k => match B.testBit k with
      | true => (t, some k) :: lkE L B r
      | false => (t, none) :: lkE L B r
    | none => (t, none) :: lkE L B r
def guardT (L : List Oper) (o : Oper) : List Nat := match o.guard with
  | none => []
  | some (j, _) => match dstOf L j with
    | some t => [t]
    | none => []
def isAlloc : Op → Bool
  | .alloc _ => true
  | _ => false
/-- Kinds: 0 floats, 1 acts, 2 new blocks. -/
def actsE : List Oper → Nat → List Nat
  | [], _ => []
  | o :: r, k => match lookOp o.op with
    | true => actsE r (k + 1)
    | false => k :: actsE r (k + 1)
def cmpAll (Bs : List Nat) (i : Nat) : List Nat → Bool
  | [] => true
  | j :: r => match Nat.beq i j || inB Bs i j || inB Bs j i with
    | true => cmpAll Bs i r
    | false => false
/-- Which of the acts are new blocks that may come anywhere. -/
def alsE (L : List Oper) (Bs : List Nat) (all : List Nat) : List Nat → List Nat
  | [] => []
  | i :: r => match L[i]? with
    | some o => match isAlloc o.op with
      | true => match cmpAll Bs i all with
        | true => alsE L Bs all r
        | false => i :: alsE L Bs all r
      | false => alsE L Bs all r
    | none => alsE L Bs all r
def memN (i : Nat) : List Nat → Bool
  | [] => false
  | j :: r => match Nat.beq i j with
    | true => true
    | false => memN i r
def minus (a b : List Nat) : List Nat := a.filter fun i => !memN i b
def lkOf (L : List Oper) (Bs : List Nat) (i : Nat) : Lk := match L[i]? with
  | some o => lkE L (Bs.getD i 0) (guardT L o ++ tmpsOf o.op)
  | none => []
/-- The floats that are shown already and not bound ahead of an act. -/
def reOf (L : List Oper) (Bs : List Nat) (i : Nat) : List Nat → List (Nat × Lk)
  | [] => []
  | f :: r => match inB Bs i f with
    | true => reOf L Bs i r
    | false => (f, lkOf L Bs f) :: reOf L Bs i r
/-- New blocks that something is bound behind, and that are not shown yet. -/
def needAl (Bs : List Nat) (i : Nat) : List Nat → List Nat
  | [] => []
  | a :: r => match inB Bs i a with
    | true => a :: needAl Bs i r
    | false => needAl Bs i r
/-- The floats (of those left) for which all acts of a list ran: bound behind no act that is left. -/
def free (Bs : List Nat) (i : Nat) : List Nat → Bool
  | [] => true
  | a :: r => match inB Bs i a with
    | true => false
    | false => free Bs i r
def freeAt (L : List Oper) (i : Nat) : Bool := match L[i]? with
  | some o => freeOp o.op
  | none => false
/-- One pass: the floats that are free of the acts left. -/
def passE (L : List Oper) (Bs : List Nat) (left : List Nat) : List Nat → List Nat → List Nat → List It → (List Nat × List Nat × List Nat × List It)
  | [], keepF, pf, out => (keepF, pf, [], out)
  | i :: r, keepF, pf, out => match free Bs i left with
    | true => match freeAt L i with
      | true => passE L Bs left r keepF pf (.fp i (lkOf L Bs i) :: out)
      | false => passE L Bs left r keepF (i :: pf) (.fl i (lkOf L Bs i) :: out)
    | false => passE L Bs left r (i :: keepF) pf out
def planE (L : List Oper) (Bs : List Nat) : Nat → List Nat → List Nat → List Nat → List Nat → List It → List It
  -- acts left, floats left (in order), floats shown, new blocks left, out (turned about)
  | 0, _, _, _, _, out => out.reverse
  | n + 1, acts, fls, pf, als, out => match passE L Bs (acts ++ als) fls [] pf out with
    | (fls, pf, _, out) => match acts with
      | [] => match als with
        | [] => out.reverse
        | a :: als => planE L Bs n [] fls.reverse pf als (.al a :: out)
      | i :: acts' => match needAl Bs i als with
        | [] => planE L Bs n acts' fls.reverse pf als (.ac i (lkOf L Bs i) (reOf L Bs i pf) :: out)
        | a :: _ => planE L Bs n acts fls.reverse pf (minus als [a]) (.al a :: out)
def itemsE (L : List Oper) (Bs : List Nat) : List It := match actsE L 0 with
  | all => match alsE L Bs all all with
    | als => planE L Bs (L.length + 5) (minus all als) (minus (List.range L.length) all) [] als []

/-- What is asked of a plan. -/
def okP (L : List Oper) (Bs : List Nat) (items : List It) : Bool := edgesOk L Bs && dstsOk L && nodupB (items.map It.ix) && (List.range L.length).all (fun i => (items.map It.ix).contains i) && itemsOk L Bs items [] [] && items.all (fun x => x.ix < L.length) && bsOk L.length Bs
def okR (L : List Oper) : Bool := match bsE L [] with
  | Bs => okP L Bs (itemsE L Bs)

-- the evaluator
def gOf (fr tv : Tr SV) : Lk → Get
  | [], _ => none
  | (u, s) :: r, t => match Nat.beq t u with
    | true => match s with
      | some k => tv.get k
      | none => fr.get u
    | false => gOf fr tv r t
def gdE (L : List Oper) (g : Get) : Option (Nat × Bool) → Option Bool
  | none => some true
  | some (j, b) => match dstOf L j with
    | some t => match g t with
      | some (.one (.v (.bool x))) => some (beqB x b)
      | _ => none
    | none => none
inductive Fl where
  | no
  | over
  | val (v : SV)
def flE (P : Program) (call : FuncId → List SV → St → Res) (n : Nat) (L : List Oper) (o : Oper) (g : Get) (st : St) : Fl := match o.dst with
  | none => .no
  | some d => match Nat.blt d n with
    | false => .no
    | true => match gdE L g o.guard with
      | none => .no
      | some false => .over
      | some true => match lookOp o.op with
        | false => .no
        | true => match opE P call g st o.op with
          | some (v, _) => .val v
          | none => .no

def valEq : Value → Value → Bool
  | .int k a, .int j b => Nat.beq (kn k) (kn j) && eqF a b
  | .bool a, .bool b => beqB a b
  | .slice none 0 0, .slice none 0 0 => true
  | .pointer none, .pointer none => true
  | .map none, .map none => true
  | _, _ => false
def scEq : SC → SC → Bool
  | .v a, .v b => valEq a b
  | .p a x, .p b y => Nat.beq a b && Nat.beq x y
  | .s a x l k o, .s b y m j p => Nat.beq a b && Nat.beq x y && Nat.beq l m && Nat.beq k j && beqB o p
  | .m a, .m b => Nat.beq a b
  | _, _ => false
def scsEq : List SC → List SC → Bool
  | [], [] => true
  | a :: l, b :: m => scEq a b && scsEq l m
  | _, _ => false
def svEq : SV → SV → Bool
  | .one a, .one b => scEq a b
  | .agg a, .agg b => scsEq a b
  | _, _ => false

def reE (P : Program) (call : FuncId → List SV → St → Res) (n : Nat) (L : List Oper) (fr tv : Tr SV) (st : St) : List (Nat × Lk) → Bool
  | [] => true
  | (k, lk) :: r => match L[k]? with
    | none => false
    | some o => match flE P call n L o (gOf fr tv lk) st with
      | .val s => match tv.get k with
        | some s' => match svEq s s' with
          | true => reE P call n L fr tv st r
          | false => false
        | none => false
      | _ => false
def allocZ (P : Program) : Op → Option (TypeId × List Value)
  | .alloc t => match zeroT P t with
    | some (_, z) => some (t, z)
    | none => none
  | _ => none
def isNone {α : Type} : Option α → Bool
  | none => true
  | some _ => false
def dpE (P : Program) (call : FuncId → List SV → St → Res) (n : Nat) (L : List Oper) (fr : Tr SV) : List It → Tr SV → St → Option (Tr SV × St)
  | [], tv, st => some (tv, st)
  | .fp i lk :: r, tv, st => match L[i]? with
    | none => none
    | some o => match freeOp o.op with
      | false => none
      | true => match flE P call n L o (gOf fr tv lk) st with
        | .no => none
        | .over => dpE P call n L fr r (Tr.set 40 tv i none) st
        | .val s => dpE P call n L fr r (Tr.set 40 tv i (some s)) st
  | .fl i lk :: r, tv, st => match L[i]? with
    | none => none
    | some o => match flE P call n L o (gOf fr tv lk) st with
      | .no => none
      | .over => dpE P call n L fr r (Tr.set 40 tv i none) st
      | .val s => dpE P call n L fr r (Tr.set 40 tv i (some s)) st
  | .ac i lk re :: r, tv, st => match L[i]? with
    | none => none
    | some o => match gdE L (gOf fr tv lk) o.guard with
      | none => none
      | some b => match o.dst with
        | some d => match Nat.blt d n with
          | false => none
          | true => match b with
            | true => match opE P call (gOf fr tv lk) st o.op with
              | none => none
              | some (v, st) => match reE P call n L fr (Tr.set 40 tv i (some v)) st re with
                | true => dpE P call n L fr r (Tr.set 40 tv i (some v)) st
                | false => none
            | false => match reE P call n L fr (Tr.set 40 tv i none) st re with
              | true => dpE P call n L fr r (Tr.set 40 tv i none) st
              | false => none
        | none => match b with
          | true => match opN P call (gOf fr tv lk) st o.op with
            | none => none
            | some st => match reE P call n L fr (Tr.set 40 tv i none) st re with
              | true => dpE P call n L fr r (Tr.set 40 tv i none) st
              | false => none
          | false => none
  | .al i :: r, tv, st => match L[i]? with
    | none => none
    | some o => match o.dst with
      | none => none
      | some d => match Nat.blt d n && isNone o.guard with
        | false => none
        | true => match allocZ P o.op with
          | none => none
          | some (t, z) => dpE P call n L fr r (Tr.set 40 tv i (some (.one (.p st.nx 0)))) (put st (.cells false (z.map .v) t))
def setAll (tv : Tr SV) : List Oper → Nat → Tr SV → Tr SV
  | [], _, fr => fr
  | o :: r, k, fr => match o.dst with
    | none => setAll tv r (k + 1) fr
    | some d => match tv.get k with
      | some s => setAll tv r (k + 1) (Tr.set 40 fr d (some s))
      | none => setAll tv r (k + 1) (Tr.set 40 fr d none)

/-- A region that draws its order. -/
def drE (P : Program) (call : FuncId → List SV → St → Res) (n : Nat) (L : List Oper) (cf : Cf) : Option Cf := match okR L with
  | false => none
  | true => match dpE P call n L cf.fr (itemsE L (bsE L [])) .leaf cf.st with
    | none => none
    | some (tv, st) => some ⟨setAll tv L 0 cf.fr, st⟩
end
end Go.Ev

namespace Go.Ev
open Go Go.Ab
section
variable {U : Nat → Value} {P : Program} {J : JD} {n : Nat} {Φ : APost} {fr : Fr} {Hs : List HProp} {F : List HProp} {ρ : Env} {g : Get} {st : St} {L : List Oper} {base vals : Fr}

theorem gOf_ok {t tv : Tr SV} (hb : FrOk U ρ t.get base) (hv : FrOk U ρ tv.get vals) : ∀ (lk : Lk), FrOk U ρ (gOf t tv lk) (mkFr base vals lk)
  | [], j, s, h => by cases h
  | (u, some k) :: r, j, s, h => by
    unfold gOf at h
    split at h
    · rename_i e
      have := Nat.eq_of_beq_eq_true e; subst this
      simp only at h
      obtain ⟨v, h1, h2⟩ := hv k s h
      refine ⟨v, ?_, h2⟩
      unfold mkFr; rw [h1]
      simp only [fget_cons, if_pos]
    · rename_i e
      obtain ⟨v, h1, h2⟩ := gOf_ok hb hv r j s h
      refine ⟨v, ?_, h2⟩
      have hne : ¬ j = u := fun e' => by subst e'; rw [Nat.beq_refl] at e; cases e
      unfold mkFr
      cases fget k vals with
      | none => exact h1
      | some a => simp only [fget_cons, if_neg hne]; exact h1
  | (u, none) :: r, j, s, h => by
    unfold gOf at h
    split at h
    · rename_i e
      have := Nat.eq_of_beq_eq_true e; subst this
      simp only at h
      obtain ⟨v, h1, h2⟩ := hb j s h
      refine ⟨v, ?_, h2⟩
      unfold mkFr; rw [h1]
      simp only [fget_cons, if_pos]
    · rename_i e
      obtain ⟨v, h1, h2⟩ := gOf_ok hb hv r j s h
      refine ⟨v, ?_, h2⟩
      have hne : ¬ j = u := fun e' => by subst e'; rw [Nat.beq_refl] at e; cases e
      unfold mkFr
      cases fget u base with
      | none => exact h1
      | some a => simp only [fget_cons, if_neg hne]; exact h1

theorem gd_ok {o : Oper} {b : Bool} (h : gdE L g o.guard = some b) (hf : FrOk U ρ g fr) {K : Fr → List HProp → Prop} (h1 : b = true → AOp P J n o K Φ fr Hs) (h2 : b = false → ∃ d, o.dst = some d ∧ Nat.blt d n = true ∧ K ((d, .tup []) :: fr) Hs) : GOp P J n L o K Φ fr Hs := by
  unfold GOp
  split
  · rename_i e
    rw [e] at h; cases h
    exact h1 rfl
  · rename_i j x e
    rw [e] at h
    unfold gdE at h
    simp only at h
    split at h
    · rename_i t ht
      split at h
      · rename_i y hy
        cases h
        obtain ⟨v, h3, h4⟩ := hf t _ hy
        cases h4.1
        refine ⟨t, ht, ?_⟩
        cases e2 : beqB y x with
        | true =>
          rw [beqB_eq] at e2
          left
          have : y = x := by cases y <;> cases x <;> simp_all
          subst this
          exact ⟨h3, h1 (by rw [beqB_eq]; simp)⟩
        | false =>
          right
          have : y = !x := by rw [beqB_eq] at e2; cases y <;> cases x <;> simp_all
          subst this
          exact ⟨h3, h2 e2⟩
      · cases h
    · cases h

theorem fl_ok {call : FuncId → List SV → St → Res} {i : Nat} {o : Oper} (ho : L[i]? = some o) (hs : SOk P ρ st Hs) (hf : FrOk U ρ g fr) :
    (flE P call n L o g st = .over → Fev P J n L i fr (.tup []) (Hs ++ F)) ∧ (∀ s, flE P call n L o g st = .val s → ∃ v, denV U ρ s v ∧ Fev P J n L i fr (.val v) (Hs ++ F)) := by
  obtain ⟨dst, op, ty, ps, af, gd⟩ := o
  unfold flE
  cases dst with
  | none => exact ⟨fun h => (by cases h), fun s h => (by cases h)⟩
  | some d =>
    simp only
    split
    · exact ⟨fun h => (by cases h), fun s h => (by cases h)⟩
    · rename_i hlt
      split
      · exact ⟨fun h => (by cases h), fun s h => (by cases h)⟩
      · rename_i hg
        refine ⟨fun _ => ⟨_, ho, gd_ok (o := ⟨some d, op, ty, ps, af, gd⟩) hg hf (fun e => by cases e) fun _ => ⟨d, rfl, hlt, .tup [], rfl, rfl, .refl _⟩⟩, fun s h => by cases h⟩
      · rename_i hg
        split
        · exact ⟨fun h => (by cases h), fun s h => (by cases h)⟩
        · rename_i hl
          split
          · rename_i v st' hop
            refine ⟨fun h => (by cases h), fun s h => ?_⟩
            cases h
            obtain ⟨_, u, h1, h2⟩ := pure_p (U := U) (J := J) (fr := fr) (ty := ty) (ps := ps) (af := af) (gd := gd) hl hop hlt hs hf
            refine ⟨u, h1, _, ho, gd_ok (o := ⟨some d, op, ty, ps, af, gd⟩) hg hf (fun _ => ?_) fun e => by cases e⟩
            exact aop_frame (K := fun fr' Hs' => fr' = (d, .val u) :: fr ∧ Hs' = Hs) (h2 _ _ ⟨rfl, rfl⟩) fun fr' Hs' ⟨e1, e2⟩ => ⟨.val u, e1, rfl, by rw [e2]⟩
          · exact ⟨fun h => (by cases h), fun s h => (by cases h)⟩

theorem fp_ok {call : FuncId → List SV → St → Res} {i : Nat} {o : Oper} (ho : L[i]? = some o) (hfree : freeOp o.op = true) (hf : FrOk U ρ g fr) :
    (flE P call n L o g st = .over → ∀ H, Fev P J n L i fr (.tup []) H) ∧ (∀ s, flE P call n L o g st = .val s → ∃ v, denV U ρ s v ∧ ∀ H, Fev P J n L i fr (.val v) H) := by
  obtain ⟨dst, op, ty, ps, af, gd⟩ := o
  unfold flE
  cases dst with
  | none => exact ⟨fun h => (by cases h), fun s h => (by cases h)⟩
  | some d =>
    simp only
    split
    · exact ⟨fun h => (by cases h), fun s h => (by cases h)⟩
    · rename_i hlt
      split
      · exact ⟨fun h => (by cases h), fun s h => (by cases h)⟩
      · rename_i hg
        refine ⟨fun _ H => ⟨_, ho, gd_ok (o := ⟨some d, op, ty, ps, af, gd⟩) hg hf (fun e => by cases e) fun _ => ⟨d, rfl, hlt, .tup [], rfl, rfl, .refl _⟩⟩, fun s h => by cases h⟩
      · rename_i hg
        split
        · exact ⟨fun h => (by cases h), fun s h => (by cases h)⟩
        · rename_i hl
          split
          · rename_i v st' hop
            refine ⟨fun h => (by cases h), fun s h => ?_⟩
            cases h
            obtain ⟨_, u, h1, h2⟩ := pure2_p (U := U) (J := J) (fr := fr) (Hs := []) (ty := ty) (ps := ps) (af := af) (gd := gd) hl hfree hop hlt hf
            refine ⟨u, h1, fun H => ⟨_, ho, gd_ok (o := ⟨some d, op, ty, ps, af, gd⟩) hg hf (fun _ => ?_) fun e => by cases e⟩⟩
            exact aop_frame (F := H) (K := fun fr' Hs' => fr' = (d, .val u) :: fr ∧ Hs' = []) (h2 _ _ ⟨rfl, rfl⟩) fun fr' Hs' ⟨e1, e2⟩ => ⟨.val u, e1, rfl, by rw [e2]; exact .refl _⟩
          · exact ⟨fun h => (by cases h), fun s h => (by cases h)⟩

theorem valEq_ok {a b : Value} (h : valEq a b = true) : a = b := by
  unfold valEq at h
  split at h
  · simp only [Bool.and_eq_true, eqF_eq] at h
    rw [kn_inj h.1, eq_of_beq h.2]
  · rw [beqB_eq] at h; simp at h; rw [h]
  · rfl
  · rfl
  · rfl
  · cases h
theorem scEq_ok {a b : SC} (h : scEq a b = true) {v w : Value} (hv : den ρ a v) (hw : den ρ b w) : v = w := by
  unfold scEq at h
  split at h
  · have := valEq_ok h; subst this
    rw [hv.1, hw.1]
  · simp only [Bool.and_eq_true] at h
    obtain ⟨h1, h2⟩ := h
    cases Nat.eq_of_beq_eq_true h1; cases Nat.eq_of_beq_eq_true h2
    obtain ⟨i, h1, rfl⟩ := hv; obtain ⟨j, h2, rfl⟩ := hw
    rw [h1] at h2; cases h2; rfl
  · simp only [Bool.and_eq_true, beqB_eq] at h
    obtain ⟨⟨⟨⟨h1, h2⟩, h3⟩, h4⟩, h5⟩ := h
    cases Nat.eq_of_beq_eq_true h1; cases Nat.eq_of_beq_eq_true h2; cases Nat.eq_of_beq_eq_true h3; cases Nat.eq_of_beq_eq_true h4
    simp at h5; subst h5
    obtain ⟨i, h1, rfl, _⟩ := hv; obtain ⟨j, h2, rfl, _⟩ := hw
    rw [h1] at h2; cases h2; rfl
  · cases Nat.eq_of_beq_eq_true h
    obtain ⟨i, h1, rfl⟩ := hv; obtain ⟨j, h2, rfl⟩ := hw
    rw [h1] at h2; cases h2; rfl
  · cases h
theorem scsEq_ok : ∀ {a b : List SC}, scsEq a b = true → ∀ {v w : List Value}, Zip2 (den ρ) a v → Zip2 (den ρ) b w → v = w
  | [], [], _, _, _, .nil, .nil => rfl
  | a :: l, b :: m, h, _, _, .cons h1 t1, .cons h2 t2 => by
    simp only [scsEq, Bool.and_eq_true] at h
    rw [scEq_ok h.1 h1 h2, scsEq_ok h.2 t1 t2]
  | [], _ :: _, h, _, _, _, _ => by cases h
  | _ :: _, [], h, _, _, _, _ => by cases h
theorem svEq_ok {a b : SV} (h : svEq a b = true) {v w : Value} (hv : denV U ρ a v) (hw : denV U ρ b w) : v = w := by
  unfold svEq at h
  split at h
  · exact scEq_ok h hv hw
  · obtain ⟨vs, h1, rfl⟩ := hv; obtain ⟨ws, h2, rfl⟩ := hw
    rw [scsEq_ok h h1 h2]
  · cases h

theorem re_ok {call : FuncId → List SV → St → Res} {t tv : Tr SV} (hb : FrOk U ρ t.get base) (hv : FrOk U ρ tv.get vals) (hs : SOk P ρ st Hs) : ∀ (re : List (Nat × Lk)), reE P call n L t tv st re = true → Rech P J n L base vals (Hs ++ F) re
  | [], _ => trivial
  | (k, lk) :: r, h => by
    unfold reE at h
    split at h
    · cases h
    · rename_i o ho
      split at h
      · rename_i s hfl
        split at h
        · rename_i s' hs'
          split at h
          · rename_i he
            obtain ⟨v', h1, h2⟩ := hv k s' hs'
            obtain ⟨v, h3, h4⟩ := (fl_ok (J := J) (F := F) ho hs (gOf_ok hb hv lk)).2 s hfl
            have := svEq_ok he h3 h2; subst this
            exact ⟨⟨_, h1, h4⟩, re_ok hb hv hs r h⟩
          · cases h
        · cases h
      · cases h

/-- Which block an operation makes. -/
def alT (P : Program) (L : List Oper) (i : Nat) : TypeId × List Value := match L[i]? with
  | some o => match allocZ P o.op with
    | some x => x
    | none => (0, [])
  | none => (0, [])
def alV (_ b : Nat) : AV := .val (.pointer (some ⟨b, 0, none⟩))
def alH (P : Program) (L : List Oper) (i b : Nat) : HProp := pt b (.cells ((alT P L i).2.map .val) (alT P L i).1)
end
end Go.Ev

namespace Go.Ev
open Go Go.Ab
section
variable {U : Nat → Value} {P : Program} {J : JD} {n : Nat} {Φ : APost} {fr : Fr} {Hs : List HProp} {F : List HProp} {ρ : Env} {g : Get} {st : St} {L : List Oper} {base vals : Fr} {keep : Lk}

theorem resK_dst {o : Oper} {d : Nat} (h : o.dst = some d) {fr : Fr} {Q : AV → List HProp → Prop} {v : AV} {H : List HProp} (hq : Q v H) : resK o fr Q ((d, v) :: fr) H := by
  refine ⟨v, ?_, hq⟩
  rw [h]

theorem dp_ok {call : FuncId → List SV → St → Res} (hcall : CallOk U P call) {t : Tr SV} {tv' : Tr SV} {st' : St} : ∀ (items : List It) {tv : Tr SV} {st : St} {ρ : Env} {vals : Fr} {Hs : List HProp}, dpE P call n L t items tv st = some (tv', st') →
    FrOk U ρ t.get base → FrOk U ρ tv.get vals → SOk P ρ st Hs → (∀ ρ' vals' Hs', ρ.le ρ' → FrOk U ρ' tv'.get vals' → SOk P ρ' st' Hs' → Φ .normal (mkFr base vals' keep) (Hs' ++ F)) →
    DP P J n Φ L base keep (Φ .normal) alV (alH P L) items vals (Hs ++ F)
  | [], tv, st, ρ, vals, Hs, h, hb, hv, hs, hK => by
    cases h
    exact hK ρ vals Hs (Env.le_refl ρ) hv hs
  | .fp i lk :: r, tv, st, ρ, vals, Hs, h, hb, hv, hs, hK => by
    unfold dpE at h
    split at h
    · cases h
    · rename_i o ho
      split at h
      · cases h
      · rename_i hfree
        have hfl := fp_ok (P := P) (J := J) (n := n) (call := call) (st := st) ho hfree (gOf_ok hb hv lk)
        split at h
        · cases h
        · rename_i e
          exact ⟨_, hfl.1 e, dp_ok hcall r h hb (hv.unset i _) hs hK⟩
        · rename_i s e
          obtain ⟨v, h1, h2⟩ := hfl.2 s e
          exact ⟨_, h2, dp_ok hcall r h hb (hv.set h1) hs hK⟩
  | .fl i lk :: r, tv, st, ρ, vals, Hs, h, hb, hv, hs, hK => by
    unfold dpE at h
    split at h
    · cases h
    · rename_i o ho
      have hfl := fl_ok (J := J) (F := F) (n := n) (call := call) ho hs (gOf_ok hb hv lk)
      split at h
      · cases h
      · rename_i e
        exact ⟨_, hfl.1 e, dp_ok hcall r h hb (hv.unset i _) hs hK⟩
      · rename_i s e
        obtain ⟨v, h1, h2⟩ := hfl.2 s e
        exact ⟨_, h2, dp_ok hcall r h hb (hv.set h1) hs hK⟩
  | .ac i lk re :: r, tv, st, ρ, vals, Hs, h, hb, hv, hs, hK => by
    unfold dpE at h
    split at h
    · cases h
    · rename_i o ho
      refine ⟨o, ho, ?_⟩
      have hg := gOf_ok hb hv lk
      split at h
      · cases h
      · rename_i b hgd
        split at h
        · rename_i d hd
          split at h
          · cases h
          · rename_i hlt
            split at h
            · -- it runs
              split at h
              · cases h
              · rename_i v st1 hop
                split at h
                · rename_i hre
                  refine gd_ok hgd hg (fun _ => ?_) fun e => by cases e
                  obtain ⟨dst, op, ty, ps, af, gd⟩ := o
                  simp only at hd; subst hd
                  refine aop_frame (K := fun fr' Hs' => resK ⟨some d, op, ty, ps, af, gd⟩ (mkFr base vals lk) (fun v Hs' => Rech P J n L base ((i, v) :: vals) Hs' re ∧ DP P J n Φ L base keep (Φ .normal) alV (alH P L) r ((i, v) :: vals) Hs') fr' (Hs' ++ F))
                    (op_ok hcall hop hlt hs hg fun ρ' v' Hs' h1 h2 h3 => ?_) fun _ _ h => h
                  have hv' := (hv.mono h1).set (d := i) h3
                  exact resK_dst rfl ⟨re_ok (hb.mono h1) hv' h2 re hre, dp_ok hcall r h (hb.mono h1) hv' h2 fun ρ'' _ _ h4 => hK ρ'' _ _ (Env.le_trans h1 h4)⟩
                · cases h
            · split at h
              · rename_i hre
                refine gd_ok hgd hg (fun e => by cases e) fun _ => ⟨d, hd, hlt, ?_⟩
                have hv' := hv.unset i (.tup [])
                exact resK_dst hd ⟨re_ok hb hv' hs re hre, dp_ok hcall r h hb hv' hs hK⟩
              · cases h
        · rename_i hd
          split at h
          · split at h
            · cases h
            · rename_i st1 hop
              split at h
              · rename_i hre
                refine gd_ok hgd hg (fun _ => ?_) fun e => by cases e
                obtain ⟨dst, op, ty, ps, af, gd⟩ := o
                simp only at hd; subst hd
                refine aop_frame (K := fun fr' Hs' => resK ⟨none, op, ty, ps, af, gd⟩ (mkFr base vals lk) (fun v Hs' => Rech P J n L base ((i, v) :: vals) Hs' re ∧ DP P J n Φ L base keep (Φ .normal) alV (alH P L) r ((i, v) :: vals) Hs') fr' (Hs' ++ F))
                  (opN_ok hcall hop hs hg fun ρ' Hs' h1 h2 => ?_) fun _ _ h => h
                have hv' := (hv.mono h1).unset i (.tup [])
                exact ⟨.tup [], rfl, re_ok (hb.mono h1) hv' h2 re hre, dp_ok hcall r h (hb.mono h1) hv' h2 fun ρ'' _ _ h4 => hK ρ'' _ _ (Env.le_trans h1 h4)⟩
              · cases h
          · cases h
  | .al i :: r, tv, st, ρ, vals, Hs, h, hb, hv, hs, hK => by
    unfold dpE at h
    split at h
    · cases h
    · rename_i o ho
      split at h
      · cases h
      · rename_i d hd
        split at h
        · cases h
        · split at h
          · cases h
          · rename_i ty z hz
            intro b
            have hal : alT P L i = (ty, z) := by unfold alT; rw [ho]; simp only; rw [hz]
            have hall : z.all Value.oneCell' = true := by
              unfold allocZ at hz
              split at hz
              · split at hz
                · rename_i hzz; cases hz
                  obtain ⟨_, _, _, _, ha⟩ := zero_of hzz
                  exact ha
                · cases hz
              · cases hz
            obtain ⟨ρ', hle, hat, hs'⟩ := hs.new (b := b) (t := ty) (zip_v hall)
            have hH : alH P L i b = pt b (.cells (z.map .val) ty) := by unfold alH; rw [hal]
            rw [hH]
            exact dp_ok (Hs := pt b (.cells (z.map .val) ty) :: Hs) hcall r h (hb.mono hle) ((hv.mono hle).set ⟨_, hat, rfl⟩) hs' fun ρ'' _ _ h4 => hK ρ'' _ _ (Env.le_trans hle h4)

theorem al_ok {call : FuncId → List SV → St → Res} {t tv' : Tr SV} {st' : St} : ∀ (items : List It) {tv : Tr SV} {st : St}, dpE P call n L t items tv st = some (tv', st') → ∀ i, It.al i ∈ items → ALk P J n Φ L alV (alH P L) i
  | [], _, _, _, i, hi => by cases hi
  | .fp j lk :: r, tv, st, h, i, hi => by
    have hi' : It.al i ∈ r := by simpa using hi
    unfold dpE at h
    split at h
    · cases h
    · split at h
      · cases h
      · split at h
        · cases h
        · exact al_ok r h i hi'
        · exact al_ok r h i hi'
  | .fl j lk :: r, tv, st, h, i, hi => by
    have hi' : It.al i ∈ r := by simpa using hi
    unfold dpE at h
    split at h
    · cases h
    · split at h
      · cases h
      · exact al_ok r h i hi'
      · exact al_ok r h i hi'
  | .ac j lk re :: r, tv, st, h, i, hi => by
    have hi' : It.al i ∈ r := by simpa using hi
    unfold dpE at h
    split at h
    · cases h
    · split at h
      · cases h
      · split at h
        · split at h
          · cases h
          · split at h
            · split at h
              · cases h
              · split at h
                · exact al_ok r h i hi'
                · cases h
            · split at h
              · exact al_ok r h i hi'
              · cases h
        · split at h
          · split at h
            · cases h
            · split at h
              · exact al_ok r h i hi'
              · cases h
          · cases h
  | .al j :: r, tv, st, h, i, hi => by
    unfold dpE at h
    split at h
    · cases h
    · rename_i o ho
      split at h
      · cases h
      · rename_i d hd
        split at h
        · cases h
        · rename_i hlt
          split at h
          · cases h
          · rename_i ty z hz
            rcases List.mem_cons.1 hi with e | hi'
            · cases e
              simp only [Bool.and_eq_true] at hlt
              obtain ⟨dst, op, ty', ps, af, gd⟩ := o
              have hgn : gd = none := by cases gd with | none => rfl | some x => cases hlt.2
              simp only at hd; subst hd; subst hgn
              have hal : alT P L j = (ty, z) := by unfold alT; rw [ho]; simp only; rw [hz]
              unfold allocZ at hz
              split at hz
              · rename_i t0 hop
                simp only at hop; subst hop
                split at hz
                · rename_i s zz hzz; cases hz
                  obtain ⟨zv, by_, hT, h2, ha⟩ := zero_of hzz
                  exact alk_alloc' (zs := z.map .val) ho hT (by rw [h2]) hlt.1 (fun b => rfl) fun b => by unfold alH; rw [hal]
                · cases hz
              · cases hz
            · exact al_ok r h i hi'

-- the frame behind
theorem setAll_get {tv : Tr SV} : ∀ (M : List Oper) (k0 : Nat) (fr : Tr SV) (t : Nat) (s : SV), (setAll tv M k0 fr).get t = some s →
    (∃ k, dstOf M k = some t ∧ tv.get (k0 + k) = some s) ∨ (fr.get t = some s ∧ ∀ k, dstOf M k ≠ some t)
  | [], k0, fr, t, s, h => .inr ⟨h, fun k hk => by simp [dstOf] at hk⟩
  | o :: r, k0, fr, t, s, h => by
    have sh : ∀ k x, dstOf r k = some x → dstOf (o :: r) (k + 1) = some x := fun k x hk => by simpa [dstOf] using hk
    have sh0 : dstOf (o :: r) 0 = o.dst := by simp [dstOf]
    unfold setAll at h
    split at h
    · rename_i hd
      rcases setAll_get r (k0 + 1) fr t s h with ⟨k, h1, h2⟩ | ⟨h1, h2⟩
      · exact .inl ⟨k + 1, sh k t h1, by rw [show k0 + (k + 1) = k0 + 1 + k from by omega]; exact h2⟩
      · refine .inr ⟨h1, fun k hk => ?_⟩
        cases k with
        | zero => rw [sh0, hd] at hk; cases hk
        | succ k => exact h2 k (by simpa [dstOf] using hk)
    · rename_i d hd
      have key : ∀ x : Option SV, tv.get k0 = x → (setAll tv r (k0 + 1) (Tr.set 40 fr d x)).get t = some s → (∃ k, dstOf (o :: r) k = some t ∧ tv.get (k0 + k) = some s) ∨ (fr.get t = some s ∧ ∀ k, dstOf (o :: r) k ≠ some t) := fun x hx h => by
        rcases setAll_get r (k0 + 1) _ t s h with ⟨k, h1, h2⟩ | ⟨h1, h2⟩
        · exact .inl ⟨k + 1, sh k t h1, by rw [show k0 + (k + 1) = k0 + 1 + k from by omega]; exact h2⟩
        · rcases Tr.get_set _ _ _ _ _ _ h1 with ⟨rfl, h3⟩ | ⟨hne, h3⟩
          · exact .inl ⟨0, by rw [sh0, hd], by rw [Nat.add_zero, hx, h3]⟩
          · refine .inr ⟨h3, fun k hk => ?_⟩
            cases k with
            | zero => rw [sh0, hd] at hk; cases hk; exact hne rfl
            | succ k => exact h2 k (by simpa [dstOf] using hk)
      split at h
      · rename_i s0 hs0; exact key _ hs0 h
      · rename_i hs0; exact key _ hs0 h

theorem mkFr_some {t k : Nat} {a : AV} (ha : fget k vals = some a) : ∀ {lk : Lk}, (∀ x ∈ lk, x.1 = t → x.2 = some k) → (t, some k) ∈ lk → fget t (mkFr base vals lk) = some a
  | [], _, h => by cases h
  | (u, some j) :: r, hall, h => by
    by_cases e : u = t
    · subst e
      have := hall _ (List.mem_cons_self) rfl
      simp only at this; cases this
      unfold mkFr; rw [ha]; simp only [fget_cons, if_pos]
    · have ih := mkFr_some ha (lk := r) (fun x hx => hall x (List.mem_cons_of_mem _ hx)) (by
        rcases List.mem_cons.1 h with h | h
        · cases h; exact absurd rfl e
        · exact h)
      unfold mkFr
      cases fget j vals with
      | none => exact ih
      | some b => simp only [fget_cons]; rw [if_neg (fun e' => e e'.symm)]; exact ih
  | (u, none) :: r, hall, h => by
    by_cases e : u = t
    · subst e
      have := hall _ (List.mem_cons_self) rfl
      cases this
    · have ih := mkFr_some ha (lk := r) (fun x hx => hall x (List.mem_cons_of_mem _ hx)) (by
        rcases List.mem_cons.1 h with h | h
        · cases h
        · exact h)
      unfold mkFr
      cases fget u base with
      | none => exact ih
      | some b => simp only [fget_cons]; rw [if_neg (fun e' => e e'.symm)]; exact ih
theorem mkFr_none {t : Nat} {a : AV} (ha : fget t base = some a) : ∀ {lk : Lk}, (∀ x ∈ lk, x.1 = t → x.2 = none) → (t, none) ∈ lk → fget t (mkFr base vals lk) = some a
  | [], _, h => by cases h
  | (u, none) :: r, hall, h => by
    by_cases e : u = t
    · subst e
      unfold mkFr; rw [ha]; simp only [fget_cons, if_pos]
    · have ih := mkFr_none ha (lk := r) (fun x hx => hall x (List.mem_cons_of_mem _ hx)) (by
        rcases List.mem_cons.1 h with h | h
        · cases h; exact absurd rfl e
        · exact h)
      unfold mkFr
      cases fget u base with
      | none => exact ih
      | some b => simp only [fget_cons]; rw [if_neg (fun e' => e e'.symm)]; exact ih
  | (u, some j) :: r, hall, h => by
    by_cases e : u = t
    · subst e
      have := hall _ (List.mem_cons_self) rfl
      cases this
    · have ih := mkFr_none ha (lk := r) (fun x hx => hall x (List.mem_cons_of_mem _ hx)) (by
        rcases List.mem_cons.1 h with h | h
        · cases h
        · exact h)
      unfold mkFr
      cases fget j vals with
      | none => exact ih
      | some b => simp only [fget_cons]; rw [if_neg (fun e' => e e'.symm)]; exact ih

def keepE (L : List Oper) (base : Fr) : Lk :=
  ((base.map Prod.fst).filter fun t => (List.range L.length).all fun k => dstOf L k != some t).map (fun t => (t, none)) ++ (List.range L.length).filterMap fun k => (dstOf L k).map fun t => (t, some k)
theorem keepE_mem {x : Nat × Option Nat} (h : x ∈ keepE L base) : (x.2 = none ∧ ∀ k, dstOf L k ≠ some x.1) ∨ ∃ k, x.2 = some k ∧ dstOf L k = some x.1 := by
  unfold keepE at h
  rcases List.mem_append.1 h with h | h
  · obtain ⟨t, ht, rfl⟩ := List.mem_map.1 h
    left
    refine ⟨rfl, fun k hk => ?_⟩
    have := List.all_eq_true.1 (List.mem_filter.1 ht).2 k (List.mem_range.2 (dstOf_lt hk))
    simp [hk] at this
  · obtain ⟨k, _, hk⟩ := List.mem_filterMap.1 h
    right
    cases e : dstOf L k with
    | none => rw [e] at hk; cases hk
    | some t => rw [e] at hk; cases hk; exact ⟨k, rfl, e⟩
theorem keepE_ok : keepOk L (keepE L base) = true := by
  unfold keepOk
  rw [List.all_eq_true]
  intro x hx
  rcases keepE_mem hx with ⟨h1, h2⟩ | ⟨k, h1, h2⟩
  · rw [h1]; simp only
    rw [List.all_eq_true]
    intro k _
    simp only [bne_iff_ne]; exact h2 k
  · rw [h1]; simp [h2]
theorem fget_mem {t : Nat} {a : AV} : ∀ {l : Fr}, fget t l = some a → t ∈ l.map Prod.fst
  | [], h => by cases h
  | (j, b) :: l, h => by
    rw [fget_cons] at h
    split at h
    · rename_i e; subst e; simp
    · exact List.mem_cons_of_mem _ (fget_mem h)

theorem dsts_uniq (hds : dstsOk L = true) {i k t : Nat} (hi : dstOf L i = some t) (hk : dstOf L k = some t) : i = k := by
  have := List.all_eq_true.1 (List.all_eq_true.1 hds i (List.mem_range.2 (dstOf_lt hi))) k (List.mem_range.2 (dstOf_lt hk))
  simp [hi, hk] at this
  exact this

theorem after_ok (hds : dstsOk L = true) {t tv : Tr SV} (hb : FrOk U ρ t.get base) (hv : FrOk U ρ tv.get vals) : FrOk U ρ (setAll tv L 0 t).get (mkFr base vals (keepE L base)) := fun x s hx => by
  rcases setAll_get L 0 t x s hx with ⟨k, h1, h2⟩ | ⟨h1, h2⟩
  · rw [Nat.zero_add] at h2
    obtain ⟨v, h3, h4⟩ := hv k s h2
    refine ⟨v, mkFr_some h3 (fun y hy e => ?_) ?_, h4⟩
    · rcases keepE_mem hy with ⟨e1, e2⟩ | ⟨k', e1, e2⟩
      · exact absurd (by rw [e]; exact h1) (e2 k)
      · rw [e] at e2; rw [e1, dsts_uniq hds e2 h1]
    · unfold keepE
      refine List.mem_append.2 (.inr (List.mem_filterMap.2 ⟨k, List.mem_range.2 (dstOf_lt h1), by rw [h1]; rfl⟩))
  · obtain ⟨v, h3, h4⟩ := hb x s h1
    refine ⟨v, mkFr_none h3 (fun y hy e => ?_) ?_, h4⟩
    · rcases keepE_mem hy with ⟨e1, e2⟩ | ⟨k', e1, e2⟩
      · exact e1
      · exact absurd (by rw [← e]; exact e2) (h2 k')
    · unfold keepE
      refine List.mem_append.2 (.inl (List.mem_map.2 ⟨x, List.mem_filter.2 ⟨fget_mem h3, ?_⟩, rfl⟩))
      rw [List.all_eq_true]
      intro k _
      simp only [bne_iff_ne]; exact h2 k

/-- Regions that draw their order. -/
theorem drE_ok (hf : P.follows .mixedOrders = true) (call : FuncId → List SV → St → Res) (hcall : CallOk U P call) (n : Nat) : DrawOk U P n (drE P call) := by
  intro ops cf cf' h J Φ F ρ fr Hs id hc hK
  unfold drE at h
  split at h
  · cases h
  · rename_i hok
    split at h
    · cases h
    · rename_i tv st hdp
      cases h
      unfold okR at hok
      simp only [okP, Bool.and_eq_true] at hok
      obtain ⟨⟨⟨⟨⟨⟨h1, h2⟩, h3⟩, h4⟩, h5⟩, h6⟩, h7⟩ := hok
      refine awp_draw hf (itemsE ops (bsE ops [])) (bsE ops []) (keepE ops fr) ?_ h7 alV (alH P ops) (fun i hi => al_ok _ hdp i hi) ?_
      · simp only [okD, Bool.and_eq_true]
        exact ⟨⟨⟨⟨⟨⟨h1, h2⟩, h3⟩, h4⟩, h5⟩, keepE_ok⟩, h6⟩
      · refine dp_ok hcall _ hdp hc.f (fun _ _ h => by cases h) hc.s fun ρ' vals' Hs' e1 e2 e3 => ?_
        exact hK ρ' _ _ e1 ⟨e3, after_ok h2 (hc.f.mono e1) e2⟩
end
end Go.Ev

namespace Go.Ev
open Go Go.Ab
noncomputable section

/-- A function that holds one range over a function: what is ahead, the function, what is behind. -/
def rfParts : Code → Option (Code × Code × Nat × Operand × Array Tmp × Code × Code × Code)
  | .seq a r => match r with
    | .seq l c => match l with
      | .seq b k => match k with
        | .block i rf => match rf with
          | .rangeFunc g ps as bd => some (a, b, i, g, ps, as, bd, c)
          | _ => none
        | _ => none
      | _ => none
    | _ => none
  | _ => none
theorem rfParts_ok {x a b c as bd : Code} {i : Nat} {g : Operand} {ps : Array Tmp} (h : rfParts x = some (a, b, i, g, ps, as, bd, c)) : x = .seq a (.seq (.seq b (.block i (.rangeFunc g ps as bd))) c) := by
  unfold rfParts at h
  split at h
  · split at h
    · split at h
      · split at h
        · split at h
          · cases h; rfl
          · cases h
        · cases h
      · cases h
    · cases h
  · cases h

def callRF (P : Program) (self : Nat → Code → Cf → Option (Ex × Cf)) (fn : Func) (a b : Code) (g : Operand) (c : Code) (as : List SV) (st : St) : Res := match Nat.ble as.length fn.ntmps with
  | false => none
  | true => match self fn.ntmps a ⟨bindArgs 0 as .leaf, st⟩ with
    | some (.normal, cf1) => match self fn.ntmps b cf1 with
      | some (.normal, cf2) => match opd cf2.fr.get g with
        | some (.one (.f (.func k) fa ca)) => match callE P self k (fa.map .one ++ [.any] ++ ca.map .one) cf2.st with
          | some (_, st) => match self fn.ntmps c ⟨cf2.fr, st⟩ with
            | some (.normal, cf) => retE P fn cf
            | some (.ret, cf) => retE P fn cf
            | _ => none
          | none => none
        | _ => none
      | _ => none
    | _ => none
def callR (P : Program) (self : Nat → Code → Cf → Option (Ex × Cf)) (f : FuncId) (as : List SV) (st : St) : Res := match P.funcs[f]? with
  | some fn => match fn.body with
    | some body => match rfParts body with
      | some (a, b, _, g, _, _, _, c) => match fn.name == "runtime.NumGoroutine" with
        | true => none
        | false => callRF P self fn a b g c as st
      | none => callE P self f as st
    | none => none
  | none => none

section
variable {U : Nat → Value} {P : Program}

theorem callR_ok {self : Nat → Code → Cf → Option (Ex × Cf)} (hself : ∀ n, SelfOk U P n (self n)) : CallOk U P (callR P self) := by
  intro f as st r st' h ρ Hs vs hs hz
  unfold callR at h
  split at h
  · rename_i fn hf
    split at h
    · rename_i body hb
      split at h
      · rename_i ca cb bid g ps cas cbd cc hparts
        have hbody := rfParts_ok hparts
        split at h
        · cases h
        · rename_i hn
          unfold callRF at h
          split at h
          · cases h
          · rename_i hle
            have hle' := Nat.le_of_ble_eq_true hle
            split at h
            · rename_i cf1 h1
              split at h
              · rename_i cf2 h2
                split at h
                · rename_i k fa cap hg
                  split at h
                  · rename_i r0 st3 h3
                    -- whatever C's end
                    have fin : ∀ (e : Ex) (cf : Cf), self fn.ntmps cc ⟨cf2.fr, st3⟩ = some (e, cf) → (exOf e = .normal ∨ exOf e = .ret) → retE P fn cf = some (r, st') →
                        ACalls P f (vs.map .val) Hs fun a own' => ∃ ρ' v, ρ.le ρ' ∧ a = .val v ∧ SOk P ρ' st' own' ∧ denV U ρ' r v := by
                      intro e cf hse he hret
                      refine ⟨⟨fn, hf, hn, by rw [hb]; rfl⟩, fun F I w ws hsep hzw => ?_⟩
                      have := rel_vals hzw; subst this
                      have hlen := zip_len hz
                      refine (callsIn_wide (n := 1)).1 (callsIn_of_wp_marks (F := Fence.wide) (n := 1) hf hb trivial (wpIn_wide.2 ?_) rfl)
                      rw [hbody]
                      have hS0 : AState ⟨I, []⟩ I fn.ntmps (frOf 0 (ws.map .val)) (Hs ++ F) { tmps := ws.toArray ++ Array.replicate (fn.ntmps - ws.toArray.size) undef, defers := [] } w := by
                        refine ⟨Im.le_refl I, hsep, ⟨?_, fun i a hi => ?_⟩, rfl⟩
                        · simp; omega
                        · obtain ⟨_, h2⟩ := frOf_get _ 0 i a hi
                          rw [Nat.sub_zero, List.getElem?_map] at h2
                          cases hv : ws[i]? with
                          | none => rw [hv] at h2; cases h2
                          | some v =>
                            rw [hv] at h2; cases h2
                            refine ⟨v, ?_, .val v⟩
                            simp only
                            rw [Array.getElem?_append_left (by have := lt_of_get hv; simpa using this)]
                            simpa using hv
                      have hA1 := hself fn.ntmps _ _ _ _ h1 ⟨I, []⟩
                        (fun e' fr' Hs0 => e' = .normal ∧ ∃ ρ' Hs', ρ.le ρ' ∧ Hs0 = Hs' ++ F ∧ CfOk U P ρ' cf1 fr' Hs') F ρ (frOf 0 (ws.map .val)) Hs ⟨hs, bind_ok hz⟩
                        (fun ρ' fr' Hs' hle hc => ⟨rfl, ρ', Hs', hle, rfl, hc⟩)
                      refine wp_seq (wp_mono (hA1.1 I _ w hS0) ?_)
                      rintro _ a1 w1 ⟨I1, fr1, Hs01, hS1, rfl, ρ1, Hs1, hle1, rfl, hc1⟩
                      refine wp_seq (wp_seq ?_)
                      have hA2 := hself fn.ntmps _ _ _ _ h2 ⟨I, []⟩
                        (fun e' fr' Hs0 => e' = .normal ∧ ∃ ρ' Hs', ρ1.le ρ' ∧ Hs0 = Hs' ++ F ∧ CfOk U P ρ' cf2 fr' Hs') F ρ1 fr1 Hs1 hc1
                        (fun ρ' fr' Hs' hle hc => ⟨rfl, ρ', Hs', hle, rfl, hc⟩)
                      refine wp_mono (hA2.1 I1 a1 w1 hS1) ?_
                      rintro _ a2 w2 ⟨I2, fr2, Hs02, hS2, rfl, ρ2, Hs2, hle2, rfl, hc2⟩
                      refine wp_block ((wpIn_wide (n := 1)).1 (wpIn_rangeFunc fun fid _ => ?_))
                      -- the function that is ranged over
                      obtain ⟨vf, hv1, fv, cv, hv2, hv3, hvf⟩ := opd_ok hc2.f hg
                      have hgv : a2.eval g = .func (.func k) fv.toArray cv.toArray := by rw [hS2.frame.val hv1, hvf]
                      obtain ⟨W1, eW1⟩ : ∃ W1 : World, W1 = (w2.alloc (.deferred (some []))).alloc (.loop { state := .ready, pending := none, fn := fid, tmps := a2.tmps, params := ps, assign := cas, body := cbd, defers := w2.heap.size }) := ⟨_, rfl⟩
                      have hzi : Zip2 (denV U ρ2) (fa.map SV.one ++ [.any] ++ cap.map SV.one) (fv ++ [Value.func (.yield (w2.heap.size + 1)) #[] #[]] ++ cv) := zip_append (zip_append (zip_ones hv2) (.cons trivial .nil)) (zip_ones hv3)
                      have hIt := call_ok hself k _ _ _ _ h3 ρ2 Hs2 _ hc2.s hzi
                      obtain ⟨fni, i1, i2, i3⟩ := hIt.1
                      have i2' : (fni.name = "runtime.NumGoroutine") = False := by simpa using i2
                      have i3' : (fni.body = none) = False := by cases e : fni.body <;> simp_all
                      have hsep1 : SepG I2 (pt (w2.heap.size + 1) (.raw (.loop { state := .ready, pending := none, fn := fid, tmps := a2.tmps, params := ps, assign := cas, body := cbd, defers := w2.heap.size })) :: pt w2.heap.size (.raw (.deferred (some []))) :: (Hs2 ++ F)) W1 := by
                        have s1 := hS2.sep.push (.deferred (some [])) (.raw (.deferred (some []))) (w2.alloc (.deferred (some []))) rfl (fun _ => ⟨World.alloc_heap_new w2 _, rfl⟩)
                        have s2 := s1.push (.loop { state := .ready, pending := none, fn := fid, tmps := a2.tmps, params := ps, assign := cas, body := cbd, defers := w2.heap.size }) (.raw (.loop { state := .ready, pending := none, fn := fid, tmps := a2.tmps, params := ps, assign := cas, body := cbd, defers := w2.heap.size })) W1 (by rw [eW1]; rfl) (fun _ => ⟨by rw [eW1]; exact World.alloc_heap_new _ _, rfl⟩) (by rw [eW1]; exact ⟨rfl, rfl⟩)
                        have e : (w2.alloc (.deferred (some []))).heap.size = w2.heap.size + 1 := by simp
                        rw [e] at s2; exact s2
                      have hsep2 : SepG I2 (Hs2 ++ (pt (w2.heap.size + 1) (.raw (.loop { state := .ready, pending := none, fn := fid, tmps := a2.tmps, params := ps, assign := cas, body := cbd, defers := w2.heap.size })) :: pt w2.heap.size (.raw (.deferred (some []))) :: F)) W1 := by
                        refine HSub.perm ?_ I2 W1 hsep1
                        exact ((List.perm_middle (l₁ := Hs2)).trans (List.Perm.cons _ (List.perm_middle (l₁ := Hs2)))).symm
                      have hcall := hIt.2 _ I2 W1 (fv ++ [Value.func (.yield (w2.heap.size + 1)) #[] #[]] ++ cv) hsep2 (vals_rel _)
                      refine ⟨w2.heap.size + 1, [{ target := .collected w2.heap.size, args := #[] }], W1, ⟨.fn (.func k) cv.toArray, fv.toArray ++ #[Value.func (.yield (w2.heap.size + 1)) #[] #[]]⟩, W1, k, (fv ++ [Value.func (.yield (w2.heap.size + 1)) #[] #[]] ++ cv).toArray, W1, ?_, ?_, fun _ _ => trivial, ?_, fun h => ?_, ?_⟩
                      · rw [eW1]; exact run_enterLoop_outer fid a2.tmps ps cas cbd
                      · have hye : a2.eval (.const (Value.func (.yield (w2.heap.size + 1)) #[] #[])) = Value.func (.yield (w2.heap.size + 1)) #[] #[] := rfl
                        simp [resolve, Deferred.ofValue, hgv, hye]
                      · simp [invoke, callFunc, i1, i2', i3']
                      · cases h
                      · refine (callsIn_wide (n := 0)).2 (hcall.mono ?_)
                        rintro e3 w3 ⟨I3, u3, a3, own3, hle3, hsep3, ⟨ρ3, v3, hle3', rfl, hs3, _⟩, rfl, _⟩
                        -- the loop's record, and the block for deferred calls
                        have hsepL := HSub.perm (List.perm_middle (l₁ := own3) (l₂ := pt w2.heap.size (.raw (.deferred (some []))) :: F)) I3 w3 hsep3
                        have hobjL : w3.heap[w2.heap.size + 1]? = some (.loop { state := .ready, pending := none, fn := fid, tmps := a2.tmps, params := ps, assign := cas, body := cbd, defers := w2.heap.size }) := by
                          obtain ⟨L, hL, hG⟩ := hsepL
                          cases hL with
                          | cons h1 h2 =>
                            cases h1
                            exact (hG.ob (w2.heap.size + 1) (.raw (.loop { state := .ready, pending := none, fn := fid, tmps := a2.tmps, params := ps, assign := cas, body := cbd, defers := w2.heap.size })) (by simp)).1
                        obtain ⟨w4, hw4⟩ : ∃ w4, w4 = w3.putObj (w2.heap.size + 1) (.loop { state := .exhausted, pending := none, fn := fid, tmps := a2.tmps, params := ps, assign := cas, body := cbd, defers := w2.heap.size }) := ⟨_, rfl⟩
                        refine ⟨none, w4, by rw [hw4]; exact run_endLoop hobjL (by simp), ?_⟩
                        have hsep4 : SepG I3 (pt (w2.heap.size + 1) (.raw (.loop { state := .exhausted, pending := none, fn := fid, tmps := a2.tmps, params := ps, assign := cas, body := cbd, defers := w2.heap.size })) :: (own3 ++ (pt w2.heap.size (.raw (.deferred (some []))) :: F))) w4 := by
                          rw [hw4]
                          exact SepG.raw hsepL _ rfl _ rfl
                        have hS4 : AState ⟨I, [{ target := .collected w2.heap.size, args := #[] }]⟩ I3 fn.ntmps fr2 (own3 ++ (pt w2.heap.size (.raw (.deferred (some []))) :: F)) { a2 with defers := [{ target := .collected w2.heap.size, args := #[] }] ++ a2.defers } w4 := by
                          refine ⟨Im.le_trans hS2.le hle3, HSub.drop _ _ I3 w4 hsep4, hS2.frame.mono hle3, ?_⟩
                          have : a2.defers = [] := hS2.nod
                          simp [this]
                        have hA3 := hself fn.ntmps _ _ _ _ hse ⟨I, [{ target := .collected w2.heap.size, args := #[] }]⟩
                          (fun e' fr' Hs0 => (e' = .normal ∨ e' = .ret) ∧ ∃ ρ' Hs', ρ3.le ρ' ∧ Hs0 = Hs' ++ (pt w2.heap.size (.raw (.deferred (some []))) :: F) ∧ CfOk U P ρ' cf fr' Hs') (pt w2.heap.size (.raw (.deferred (some []))) :: F) ρ3 fr2 own3 ⟨hs3, hc2.f.mono hle3'⟩
                          (fun ρ' fr' Hs' hle hc => ⟨he, ρ', Hs', hle, rfl, hc⟩)
                        have hC := wp_mono (hA3.1 I3 _ w4 hS4) (Q' := bodyPostM Fence.wide 1 P fn fun e w' => ∃ I' v a own', Im.le I I' ∧ SepG I' (own' ++ F) w' ∧ (∃ ρ' v, ρ.le ρ' ∧ a = .val v ∧ SOk P ρ' st' own' ∧ denV U ρ' r v) ∧ e = .returned v ∧ Rel I' v a) ?_
                        · exact hC
                        · rintro e5 a5 w5 ⟨I5, fr5, Hs05, hS5, he5, ρ5, Hs5, hle5, rfl, hc5⟩
                          obtain ⟨r1, v5, r2, r3⟩ := retE_ok (n := fn.ntmps) hret hc5
                          subst r1
                          have hsepD := HSub.perm (List.perm_middle (l₁ := Hs5) (l₂ := F)) I5 w5 hS5.sep
                          have hobjD : w5.heap[w2.heap.size]? = some (.deferred (some [])) := by
                            obtain ⟨L, hL, hG⟩ := hsepD
                            cases hL with
                            | cons h1 h2 =>
                              cases h1
                              exact (hG.ob w2.heap.size (.raw (.deferred (some []))) (by simp)).1
                          have hsep6 := SepG.raw hsepD (.deferred none) rfl (w5.putObj w2.heap.size (.deferred none)) rfl
                          have hsep7 : SepG I5 (Hs5 ++ F) (w5.putObj w2.heap.size (.deferred none)) := HSub.drop _ _ I5 _ hsep6
                          have hd5 : a5.defers = [{ target := .collected w2.heap.size, args := #[] }] := hS5.nod
                          have last : LeavesInM Fence.wide 1 P fn a5.tmps (fun e w' => ∃ I' v a own', Im.le I I' ∧ SepG I' (own' ++ F) w' ∧ (∃ ρ' v, ρ.le ρ' ∧ a = .val v ∧ SOk P ρ' cf.st own' ∧ denV U ρ' r v) ∧ e = .returned v ∧ Rel I' v a) a5.defers .returning w5 := by
                            rw [hd5]
                            refine ⟨by simp, .inl ⟨w2.heap.size, w5.putObj w2.heap.size (.deferred none), rfl, run_takeDeferred hobjD, v5, r3 I5 F a5 _ hS5.frame hsep7, I5, v5, .val v5, Hs5, hS5.le, hsep7, ⟨ρ5, v5, Env.le_trans (Env.le_trans (Env.le_trans hle1 hle2) hle3') hle5, rfl, hc5.s, r2⟩, rfl, .val v5⟩⟩
                          rcases he5 with rfl | rfl <;> exact last
                    split at h
                    · rename_i cf hse; exact fin .normal cf hse (.inl rfl) h
                    · rename_i cf hse; exact fin .ret cf hse (.inr rfl) h
                    · cases h
                  · cases h
                · cases h
              · cases h
            · cases h
      · exact call_ok hself f as st r st' h ρ Hs vs hs hz
    · cases h
  · cases h
end
end
end Go.Ev

namespace Go.Ev
open Go Go.Ab
noncomputable section

/-- The evaluator, with contracts for some calls. -/
def callX (P : Program) (ctr : FuncId → List SV → St → Option Res) (self : Nat → Code → Cf → Option (Ex × Cf)) (f : FuncId) (as : List SV) (st : St) : Res := match ctr f as st with
  | some r => r
  | none => callR P self f as st
def evX (P : Program) (ctr : FuncId → List SV → St → Option Res) : Nat → Nat → Code → Cf → Option (Ex × Cf) :=
  Nat.rec (fun _ _ _ => none) (fun _ ih n c cf => codeE P (callX P ctr ih) (drE P (callX P ctr ih)) n (ih n) c cf)
def runX (P : Program) (ctr : FuncId → List SV → St → Option Res) (n : Nat) (f : FuncId) (as : List SV) : Res := callX P ctr (evX P ctr n) f as ⟨.leaf, 0⟩

section
variable {U : Nat → Value} {P : Program} {ctr : FuncId → List SV → St → Option Res}
variable (U P) in
/-- What is asked of the contracts. -/
def CtrOk (ctr : FuncId → List SV → St → Option Res) : Prop := ∀ f as st r st', ctr f as st = some (some (r, st')) → ∀ ρ Hs vs, SOk P ρ st Hs → Zip2 (denV U ρ) as vs →
  ACalls P f (vs.map .val) Hs fun a own' => ∃ ρ' v, ρ.le ρ' ∧ a = .val v ∧ SOk P ρ' st' own' ∧ denV U ρ' r v

theorem callX_ok (hc : CtrOk U P ctr) {self : Nat → Code → Cf → Option (Ex × Cf)} (hself : ∀ n, SelfOk U P n (self n)) : CallOk U P (callX P ctr self) := by
  intro f as st r st' h ρ Hs vs hs hz
  unfold callX at h
  split at h
  · rename_i r' hr'
    subst h
    exact hc f as st r st' hr' ρ Hs vs hs hz
  · exact callR_ok hself f as st r st' h ρ Hs vs hs hz
theorem evX_ok (hf : P.follows .mixedOrders = true) (hc : CtrOk U P ctr) : ∀ k n, SelfOk U P n (evX P ctr k n) := by
  intro k
  induction k with
  | zero => intro n c cf e cf' h; cases h
  | succ k ih => intro n; exact code_ok (callX_ok hc ih) (drE_ok hf _ (callX_ok hc ih) n) (ih n)
theorem runX_ok (hf : P.follows .mixedOrders = true) (hc : CtrOk U P ctr) (k : Nat) : CallOk U P (callX P ctr (evX P ctr k)) := callX_ok hc (evX_ok hf hc k)

/-- A world's blocks, as they are. -/
def oldL (W : World) : Heaplet := (List.range W.heap.size).map fun b => (b, .old (W.heap.getD b default) W.os W.output)
def oldF (W : World) : List HProp := (oldL W).map fun x => pt x.1 x.2
theorem seps_pts : ∀ (l : Heaplet), Seps (l.map fun x => pt x.1 x.2) l
  | [] => .nil
  | x :: l => by
    have h := Seps.cons (h := pt x.1 x.2) (l := [x]) (l' := l) rfl (seps_pts l)
    simpa using h
theorem seps_pts_eq : ∀ {l m : Heaplet}, Seps (l.map fun x => pt x.1 x.2) m → m = l
  | [], _, h => by cases h; rfl
  | x :: l, _, h => by
    cases h with
    | cons h1 h2 => cases h1; rw [seps_pts_eq h2]; rfl
theorem old_sep (W : World) : SepG (fun _ => none) (oldF W) W := by
  refine ⟨oldL W, seps_pts _, fun a v h => (by cases h), ?_, fun b o hb => ?_⟩
  · unfold oldL; rw [List.map_map]
    have : ((fun x : Nat × AObj => x.1) ∘ fun b => (b, AObj.old (W.heap.getD b default) W.os W.output)) = id := rfl
    rw [this, List.map_id]; exact List.nodup_range
  · unfold oldL at hb
    obtain ⟨b', hb', e⟩ := List.mem_map.1 hb
    cases e
    have := List.mem_range.1 hb'
    exact ⟨by simp [this], rfl, rfl⟩
theorem old_back {W W' : World} {I : Im} {own : List HProp} (h : SepG I (own ++ oldF W) W') (hne : 0 < W.heap.size) : W'.os = W.os ∧ W'.output = W.output ∧ ∀ i, i < W.heap.size → W'.heap[i]? = W.heap[i]? := by
  obtain ⟨L, hs, hg⟩ := h
  obtain ⟨x, y, rfl, _, h2⟩ := Seps.split hs
  have := seps_pts_eq h2; subst this
  have key : ∀ i, i < W.heap.size → W'.heap[i]? = some (W.heap.getD i default) ∧ W'.os = W.os ∧ W'.output = W.output := fun i hi =>
    hg.ob i (.old (W.heap.getD i default) W.os W.output) (List.mem_append.2 (.inr (List.mem_map.2 ⟨i, List.mem_range.2 hi, rfl⟩)))
  refine ⟨(key 0 hne).2.1, (key 0 hne).2.2, fun i hi => ?_⟩
  rw [(key i hi).1]; simp [hi]

def noCtr : FuncId → List SV → St → Option Res := fun _ _ _ => none
theorem noCtr_ok : CtrOk U P noCtr := fun _ _ _ _ _ h => by cases h

/-- A closed run that ends in true. -/
theorem closed_true (hf : P.follows .mixedOrders = true) {v : Value} (hc : CtrOk (fun _ => v) P ctr) (k : Nat) {f : FuncId} (h : isTrue (runX P ctr k f [.u 0]) = true) (W : World) (hne : 0 < W.heap.size) :
    Calls P f #[v] W fun e W' => e = .returned (.bool true) ∧ W'.os = W.os ∧ W'.output = W.output ∧ ∀ i, i < W.heap.size → W'.heap[i]? = W.heap[i]? := by
  unfold isTrue at h
  split at h
  · rename_i b st' hr
    subst h
    have hs0 : SOk P (fun _ => none) ⟨.leaf, 0⟩ [] := ⟨⟨[], List.nodup_nil, fun id o h => (by cases h), .nil⟩, fun _ _ => rfl⟩
    have hA := runX_ok (U := fun _ => v) hf hc k f [.u 0] _ _ _ hr _ [] [v] hs0 (.cons rfl .nil)
    refine (hA.2 (oldF W) (fun _ => none) W [v] (old_sep W) (.cons (.val v) .nil)).mono ?_
    rintro e W' ⟨I', u, a, own', _, h2, ⟨ρ', v', _, rfl, _, h5⟩, rfl, h7⟩
    have := h7.val_eq; subst this
    exact ⟨by rw [h5.1], old_back h2 hne⟩
  · cases h
end
end
end Go.Ev

namespace Go.Ev
open Go Go.Ab
noncomputable section

section
variable {U : Nat → Value} {P : Program}

theorem ACalls.frame {f : FuncId} {as : List AV} {own : List HProp} {R : AV → List HProp → Prop} (h : ACalls P f as own R) (G : List HProp) : ACalls P f as (own ++ G) fun a o => ∃ o0, R a o0 ∧ o = o0 ++ G :=
  ⟨h.1, fun F I w vs hs hz => (h.2 (G ++ F) I w vs (by rw [← List.append_assoc]; exact hs) hz).mono fun _ _ ⟨I', v, a, o, h1, h2, h3, h4⟩ => ⟨I', v, a, o ++ G, h1, by rw [List.append_assoc]; exact h2, ⟨o, h3, rfl⟩, h4⟩⟩
theorem HSub.dropl (a b : List HProp) : HSub (a ++ b) b := fun I w ⟨L, hs, hg⟩ => by
  obtain ⟨x, y, rfl, _, h2⟩ := Seps.split hs
  exact ⟨y, h2, hg.sub (List.sublist_append_right _ _)⟩

/-- A value without a block's number. -/
def plain1 : SC → Bool
  | .v _ => true
  | _ => false
def plainV : SV → Bool
  | .one c => plain1 c
  | .agg cs => cs.all plain1
  | .tup _ => false
  | .u _ => true
  | .any => true
theorem plain1_den {ρ ρ' : Env} {c : SC} (h : plain1 c = true) {v : Value} (hd : den ρ c v) : den ρ' c v := by
  cases c <;> simp [plain1] at h
  exact hd
theorem plainV_den {ρ ρ' : Env} {c : SV} (h : plainV c = true) {v : Value} (hd : denV U ρ c v) : denV U ρ' c v := by
  cases c <;> simp only [plainV] at h
  case one c => exact plain1_den h hd
  case agg cs =>
    obtain ⟨vs, hz, rfl⟩ := hd
    refine ⟨vs, ?_, rfl⟩
    induction hz with
    | nil => exact .nil
    | cons h0 _ ih =>
      simp only [List.all_cons, Bool.and_eq_true] at h
      exact .cons (plain1_den h.1 h0) (ih h.2)
  case u => exact hd
  case any => trivial
  case tup => cases h
theorem plainL_den {ρ ρ' : Env} : ∀ {as : List SV}, as.all plainV = true → ∀ {vs : List Value}, Zip2 (denV U ρ) as vs → Zip2 (denV U ρ') as vs
  | [], _, _, .nil => .nil
  | a :: as, h, _, .cons h0 ht => by
    simp only [List.all_cons, Bool.and_eq_true] at h
    exact .cons (plainV_den h.1 h0) (plainL_den h.2 ht)

/-- A call without memory, run ahead, holds in every state. -/
theorem plain_call {call : FuncId → List SV → St → Res} (hcall : CallOk U P call) {f : FuncId} {as : List SV} {r : SV} {st1 : St} (h : call f as ⟨.leaf, 0⟩ = some (r, st1)) (ha : as.all plainV = true) (hr : plainV r = true)
    {ρ : Env} {Hs : List HProp} {vs : List Value} {st : St} (hs : SOk P ρ st Hs) (hz : Zip2 (denV U ρ) as vs) :
    ACalls P f (vs.map .val) Hs fun a own' => ∃ ρ' v, ρ.le ρ' ∧ a = .val v ∧ SOk P ρ' st own' ∧ denV U ρ' r v := by
  have hs0 : SOk P (fun _ => none) ⟨.leaf, 0⟩ [] := ⟨⟨[], List.nodup_nil, fun id o h => (by cases h), .nil⟩, fun _ _ => rfl⟩
  have hA := ACalls.frame (hcall f as _ _ _ h _ [] vs hs0 (plainL_den ha hz)) Hs
  rw [List.nil_append] at hA
  refine hA.post fun a o ⟨o0, ⟨ρ', v, h1, h2, h3, h4⟩, h5⟩ => ⟨a, Hs, ⟨ρ, v, Env.le_refl ρ, h2, hs, plainV_den hr h4⟩, fun _ _ h => h, fun F => ?_⟩
  subst h5
  rw [List.append_assoc]
  exact HSub.dropl o0 (Hs ++ F)

-- turning a word
def M32 : Nat := 4294967296
def rotE (x n : Nat) : Nat := Nat.lor (Nat.mod (Nat.mod (Nat.mul x (Nat.pow 2 (Nat.sub 32 n))) M32) M32) (Nat.mod (Nat.div x (Nat.pow 2 n)) M32)
def turns : List Nat := [2, 6, 7, 11, 13, 17, 18, 19, 22, 25]
def ctrTurn (fT : FuncId) : FuncId → List SV → St → Option Res := fun f l st => match Nat.beq f fT with
  | false => none
  | true => match l with
    | [.one (.v (.int .u32 (.ofNat x))), .one (.v (.int .i64 (.ofNat n)))] => match memN n turns with
      | true => some (some (.one (.v (.int .u32 (.ofNat (rotE x n)))), st))
      | false => none
    | _ => none
theorem memN_iff {n : Nat} : ∀ {l : List Nat}, memN n l = true → n ∈ l
  | [], h => by cases h
  | j :: r, h => by
    unfold memN at h
    split at h
    · rename_i e
      rw [Nat.eq_of_beq_eq_true e]; exact List.mem_cons_self
    · exact List.mem_cons_of_mem _ (memN_iff h)
theorem ctrTurn_ok (hf : P.follows .mixedOrders = true) (fT : FuncId) {k : Nat} (h : ∀ n, n ∈ turns → ∀ x, ∃ st1, runX P noCtr k fT [.one (.v (.int .u32 (.ofNat x))), .one (.v (.int .i64 (.ofNat n)))] = some (.one (.v (.int .u32 (.ofNat (rotE x n)))), st1)) : CtrOk U P (ctrTurn fT) := by
  intro f as st r st' hc ρ Hs vs hs hz
  unfold ctrTurn at hc
  split at hc
  · cases hc
  · rename_i hfe
    have := Nat.eq_of_beq_eq_true hfe; subst this
    split at hc
    · rename_i x n
      split at hc
      · rename_i hm
        cases hc
        obtain ⟨st1, h1⟩ := h n (memN_iff hm) x
        exact plain_call (runX_ok hf noCtr_ok k) h1 rfl rfl hs hz
      · cases hc
    · cases hc
end
end
end Go.Ev
