/- Contracts of functions that the law reaches: what they compute. No condition. -/
import Derived.Test.YtjnejhlnhapogaaT10
set_option linter.unusedVariables false
set_option linter.unusedSimpArgs false
namespace Go.Proofs
open Go.Abs Go.NatMath
set_option linter.unusedVariables false
set_option linter.unusedSimpArgs false

/-! ### Gcd -/
def spGcd : List AV → Option AV := sp2 1 fun L M => some (U (Nat.gcd (nv L) (nv M)))
attribute [go_sem] spGcd
theorem gcd_step (x y : Nat) : Nat.gcd y (x % y) = Nat.gcd x y := by rw [Nat.gcd_comm y, ← Nat.gcd_rec, Nat.gcd_comm]
namespace Gcd
def Γ : FuncId → Abs.Spec
  | 19 => .pure spDivMod
  | 25 => .pure spPlain
  | _ => .none
theorem ΓOK : ∀ f, SpecOK Try.prog f (Γ f) := by
  intro f
  unfold Γ
  split
  · exact ⟨⟨_, Try.func19, by decide +kernel, rfl⟩, DivMod.ok⟩
  · exact ⟨⟨_, Try.func25, by decide +kernel, rfl⟩, Plain.ok⟩
  · trivial
attribute [local go_sem] Γ
theorem ok : PureOK Try.prog 31 spGcd := by
  refine pure_of_awp (n := 25) [4] Try.func31 rfl rfl rfl ?_
  intro M0 w0 args r h
  obtain ⟨L, M, rfl, hL, hLl, hM, hMl, hr⟩ := sp2_some h
  cases hr
  clear h
  refine ⟨by simp, ?_⟩
  have hAl := limbs_length_nv hL
  have hCl := limbs_length_nv hM
  refine awp_seq_k fun K0 hK0 => ?_
  refine awp_region (Θ := Θ) (Γ := Γ) [0, 1] ΘOK ΓOK rfl ?_
  repeat' (first
    | (with_reducible refine arun_nil ?_)
    | ((with_reducible apply arun_any); (focus exact rfl); (focus (simp (disch := first | assumption | (with_reducible exact okL_limbs _) | omega) only [go_sem, ↓reduceIte, Nat.reduceEqDiff, reduceCtorEq, Nat.reduceAdd]; with_reducible exact rfl)); with_reducible (first | refine okk_some ?_ | (refine okk_ite ?_ ?_; (focus omega)) | (refine okk_ifn ?_ ?_; (focus omega)))))
  all_goals (simp only [go_sem, ↓reduceIte, Nat.reduceEqDiff, reduceCtorEq, Nat.reduceAdd]; refine hK0 _ ?_; clear hK0 K0)
  refine awp_seq_k fun K0 hK0 => ?_
  refine awp_region (Θ := Θ) (Γ := Γ) [0, 1] ΘOK ΓOK rfl ?_
  repeat' (first
    | (with_reducible refine arun_nil ?_)
    | ((with_reducible apply arun_any); (focus exact rfl); (focus (simp (disch := first | assumption | (with_reducible exact okL_limbs _) | omega) only [go_sem, ↓reduceIte, Nat.reduceEqDiff, reduceCtorEq, Nat.reduceAdd]; with_reducible exact rfl)); with_reducible (first | refine okk_some ?_ | (refine okk_ite ?_ ?_; (focus omega)) | (refine okk_ifn ?_ ?_; (focus omega)))))
  all_goals (simp only [go_sem, ↓reduceIte, Nat.reduceEqDiff, reduceCtorEq, Nat.reduceAdd]; refine hK0 _ ?_; clear hK0 K0)
  generalize nv L = a at *
  generalize nv M = b at *
  refine awp_seq_k fun K0 hK0 => ?_
  refine awp_block ?_   -- 0
  refine awp_loop_st (ι := Nat × Nat) (fun p => [(0, .lst (ints .u32 (limbs p.1))), (1, .lst (ints .u32 (limbs p.2)))]) (fun p => []) (fun p => p.2)
    (fun p => (limbs p.1).length + 1 ≤ 35184372088831 ∧ (limbs p.2).length + 1 ≤ 35184372088831 ∧ Nat.gcd p.1 p.2 = Nat.gcd a b) (a, b)
    ⟨by simp only; omega, by simp only; omega, rfl⟩ (by simp [agree_cons, agree_nil, slook_cons, vInt]) (by simp [ints]) ?_
  rintro ⟨x, y⟩ ⟨h1, h2, h3⟩
  simp only at h1 h2 h3 ⊢
  have hx := okL_limbs x
  have hy := okL_limbs y
  have hxv := nv_limbs x
  have hyv := nv_limbs y
  have hy0 := @limbs_eq_nil y
  refine awp_seq_k fun K1 hK1 => ?_
  refine awp_seq_k fun K2 hK2 => ?_
  refine awp_region (Θ := Θ) (Γ := Γ) [0, 1, 14] ΘOK ΓOK rfl ?_
  repeat' (first
    | (with_reducible refine arun_nil ?_)
    | ((with_reducible apply arun_any); (focus exact rfl); (focus (simp (disch := first | assumption | (with_reducible exact okL_limbs _) | omega) only [go_sem, ↓reduceIte, Nat.reduceEqDiff, reduceCtorEq, Nat.reduceAdd]; with_reducible exact rfl)); with_reducible (first | refine okk_some ?_ | (refine okk_ite ?_ ?_; (focus omega)) | (refine okk_ifn ?_ ?_; (focus omega)))))
  all_goals (simp only [go_sem, ↓reduceIte, Nat.reduceEqDiff, reduceCtorEq, Nat.reduceAdd]; refine hK2 _ ?_; clear hK2 K2)
  apply awp_cond
  (focus (simp only [go_sem, ↓reduceIte, Nat.reduceEqDiff, reduceCtorEq, Nat.reduceAdd]; exact rfl))
  all_goals intro hc
  ·
    have hne : y ≠ 0 := fun e => by rw [hy0.2 e] at hc; simp at hc
    clear hc
    have hr := rDM_pos (a := x) hne
    refine awp_skip ?_
    refine hK1 _ ?_; clear hK1 K1
    refine awp_block ?_   -- 1
    refine awp_seq_k fun K1 hK1 => ?_
    refine awp_region (Θ := Θ) (Γ := Γ) [1, 6] ΘOK ΓOK rfl ?_
    repeat' (first
      | (with_reducible refine arun_nil ?_)
      | ((with_reducible apply arun_any); (focus exact rfl); (focus (simp (disch := first | assumption | (with_reducible exact okL_limbs _) | omega) only [go_sem, ↓reduceIte, Nat.reduceEqDiff, reduceCtorEq, Nat.reduceAdd, hxv, hyv, hr]; with_reducible exact rfl)); with_reducible (first | refine okk_some ?_ | (refine okk_ite ?_ ?_; (focus omega)) | (refine okk_ifn ?_ ?_; (focus omega)))))
    all_goals (simp only [go_sem, ↓reduceIte, Nat.reduceEqDiff, reduceCtorEq, Nat.reduceAdd]; refine hK1 _ ?_; clear hK1 K1)
    refine awp_region (Θ := Θ) (Γ := Γ) [0, 1] ΘOK ΓOK rfl ?_
    repeat' (first
      | (with_reducible refine arun_nil ?_)
      | ((with_reducible apply arun_any); (focus exact rfl); (focus (simp (disch := first | assumption | (with_reducible exact okL_limbs _) | omega) only [go_sem, ↓reduceIte, Nat.reduceEqDiff, reduceCtorEq, Nat.reduceAdd]; with_reducible exact rfl)); with_reducible (first | refine okk_some ?_ | (refine okk_ite ?_ ?_; (focus omega)) | (refine okk_ifn ?_ ?_; (focus omega)))))
    all_goals (simp only [go_sem, ↓reduceIte, Nat.reduceEqDiff, reduceCtorEq, Nat.reduceAdd])
    have hlt := Nat.mod_lt x (show y > 0 by omega)
    have hml := limbs_length_mono (Nat.le_of_lt hlt)
    refine ⟨(y, x % y), ⟨h2, by simp only; omega, by simp only; rw [gcd_step, h3]⟩, ?_, by simp only; omega⟩
    ·
      first | (simp [agree_cons, agree_nil, slook_cons, vInt]; done) | (simp [agree_cons, agree_nil, slook_cons, vInt]; omega) | (simp [agree_cons, agree_nil, slook_cons, vInt]; grind)
  ·
    have hz : y = 0 := hy0.1 (by simpa using hc)
    subst hz
    rw [Nat.gcd_zero_right] at h3
    subst h3
    refine awp_exit ?_   -- exit 0
    simp only [Nat.reduceEqDiff, ↓reduceIte]
    refine hK0 _ ?_; clear hK0 K0 hK1 K1
    refine awp_seq_k fun K0 hK0 => ?_
    refine awp_region (Θ := Θ) (Γ := Γ) [4] ΘOK ΓOK rfl ?_
    repeat' (first
      | (with_reducible refine arun_nil ?_)
      | ((with_reducible apply arun_any); (focus exact rfl); (focus (simp (disch := first | assumption | (with_reducible exact okL_limbs _) | omega) only [go_sem, ↓reduceIte, Nat.reduceEqDiff, reduceCtorEq, Nat.reduceAdd]; with_reducible exact rfl)); with_reducible (first | refine okk_some ?_ | (refine okk_ite ?_ ?_; (focus omega)) | (refine okk_ifn ?_ ?_; (focus omega)))))
    all_goals (simp only [go_sem, ↓reduceIte, Nat.reduceEqDiff, reduceCtorEq, Nat.reduceAdd]; refine hK0 _ ?_; clear hK0 K0)
    refine awp_ret ?_
    simp only [go_sem, ↓reduceIte, Nat.reduceEqDiff, reduceCtorEq, Nat.reduceAdd, Res]
end Gcd
namespace RGcd
def Γ : FuncId → Abs.Spec
  | 20 => .pure spDivMod
  | 26 => .pure spPlain
  | 38 => .pure spSmall
  | 40 => .pure spOf
  | _ => .none
theorem ΓOK : ∀ f, SpecOK Try.prog f (Γ f) := by
  intro f
  unfold Γ
  split
  · exact ⟨⟨_, Try.func20, by decide +kernel, rfl⟩, RDivMod.ok⟩
  · exact ⟨⟨_, Try.func26, by decide +kernel, rfl⟩, RPlain.ok⟩
  · exact ⟨⟨_, Try.func38, by decide +kernel, rfl⟩, RSmall.ok⟩
  · exact ⟨⟨_, Try.func40, by decide +kernel, rfl⟩, ROf.ok⟩
  · trivial
attribute [local go_sem] Γ
theorem ok : PureOK Try.prog 32 spGcd := by
  refine pure_of_awp (n := 51) [4] Try.func32 rfl rfl rfl ?_
  intro M0 w0 args r h
  obtain ⟨L, M, rfl, hL, hLl, hM, hMl, hr⟩ := sp2_some h
  cases hr
  clear h
  refine ⟨by simp, ?_⟩
  have hAl := limbs_length_nv hL
  have hCl := limbs_length_nv hM
  refine awp_seq_k fun K0 hK0 => ?_
  refine awp_region (Θ := Θ) (Γ := Γ) [0, 1] ΘOK ΓOK rfl ?_
  repeat' (first
    | (with_reducible refine arun_nil ?_)
    | ((with_reducible apply arun_any); (focus exact rfl); (focus (simp (disch := first | assumption | (with_reducible exact okL_limbs _) | omega) only [go_sem, ↓reduceIte, Nat.reduceEqDiff, reduceCtorEq, Nat.reduceAdd]; with_reducible exact rfl)); with_reducible (first | refine okk_some ?_ | (refine okk_ite ?_ ?_; (focus omega)) | (refine okk_ifn ?_ ?_; (focus omega)))))
  all_goals (simp only [go_sem, ↓reduceIte, Nat.reduceEqDiff, reduceCtorEq, Nat.reduceAdd]; refine hK0 _ ?_; clear hK0 K0)
  refine awp_seq_k fun K0 hK0 => ?_
  refine awp_region (Θ := Θ) (Γ := Γ) [0, 1] ΘOK ΓOK rfl ?_
  repeat' (first
    | (with_reducible refine arun_nil ?_)
    | ((with_reducible apply arun_any); (focus exact rfl); (focus (simp (disch := first | assumption | (with_reducible exact okL_limbs _) | omega) only [go_sem, ↓reduceIte, Nat.reduceEqDiff, reduceCtorEq, Nat.reduceAdd]; with_reducible exact rfl)); with_reducible (first | refine okk_some ?_ | (refine okk_ite ?_ ?_; (focus omega)) | (refine okk_ifn ?_ ?_; (focus omega)))))
  all_goals (simp only [go_sem, ↓reduceIte, Nat.reduceEqDiff, reduceCtorEq, Nat.reduceAdd]; refine hK0 _ ?_; clear hK0 K0)
  generalize nv L = a at *
  generalize nv M = b at *
  refine awp_seq_k fun K0 hK0 => ?_
  refine awp_block ?_   -- 0
  refine awp_loop_st (ι := Nat × Nat) (fun p => [(0, .lst (ints .u32 (limbs p.1))), (1, .lst (ints .u32 (limbs p.2)))]) (fun p => []) (fun p => p.2)
    (fun p => (limbs p.1).length + 1 ≤ 35184372088831 ∧ (limbs p.2).length + 1 ≤ 35184372088831 ∧ Nat.gcd p.1 p.2 = Nat.gcd a b) (a, b)
    ⟨by simp only; omega, by simp only; omega, rfl⟩ (by simp [agree_cons, agree_nil, slook_cons, vInt]) (by simp [ints]) ?_
  rintro ⟨x, y⟩ ⟨h1, h2, h3⟩
  simp only at h1 h2 h3 ⊢
  have hx := okL_limbs x
  have hy := okL_limbs y
  have hxv := nv_limbs x
  have hyv := nv_limbs y
  have hy0 := @limbs_eq_nil y
  refine awp_seq_k fun K1 hK1 => ?_
  refine awp_seq_k fun K2 hK2 => ?_
  refine awp_region (Θ := Θ) (Γ := Γ) [0, 1, 18] ΘOK ΓOK rfl ?_
  repeat' (first
    | (with_reducible refine arun_nil ?_)
    | ((with_reducible apply arun_any); (focus exact rfl); (focus (simp (disch := first | assumption | (with_reducible exact okL_limbs _) | omega) only [go_sem, ↓reduceIte, Nat.reduceEqDiff, reduceCtorEq, Nat.reduceAdd]; with_reducible exact rfl)); with_reducible (first | refine okk_some ?_ | (refine okk_ite ?_ ?_; (focus omega)) | (refine okk_ifn ?_ ?_; (focus omega)))))
  all_goals (simp only [go_sem, ↓reduceIte, Nat.reduceEqDiff, reduceCtorEq, Nat.reduceAdd]; refine hK2 _ ?_; clear hK2 K2)
  apply awp_cond
  (focus (simp only [go_sem, ↓reduceIte, Nat.reduceEqDiff, reduceCtorEq, Nat.reduceAdd]; exact rfl))
  all_goals intro hc
  ·
    have hne : y ≠ 0 := fun e => by rw [hy0.2 e] at hc; simp at hc
    clear hc
    have hr := rDM_pos (a := x) hne
    refine awp_skip ?_
    refine hK1 _ ?_; clear hK1 K1
    refine awp_block ?_   -- 1
    refine awp_seq_k fun K1 hK1 => ?_
    refine awp_region (Θ := Θ) (Γ := Γ) [0, 1, 5, 6] ΘOK ΓOK rfl ?_
    repeat' (first
      | (with_reducible refine arun_nil ?_)
      | ((with_reducible apply arun_any); (focus exact rfl); (focus (simp (disch := first | assumption | (with_reducible exact okL_limbs _) | omega) only [go_sem, ↓reduceIte, Nat.reduceEqDiff, reduceCtorEq, Nat.reduceAdd, hxv]; with_reducible exact rfl)); with_reducible (first | refine okk_some ?_ | (refine okk_ite ?_ ?_; (focus omega)) | (refine okk_ifn ?_ ?_; (focus omega)))))
    all_goals (simp only [go_sem, ↓reduceIte, Nat.reduceEqDiff, reduceCtorEq, Nat.reduceAdd]; refine hK1 _ ?_; clear hK1 K1)
    refine awp_seq_k fun K1 hK1 => ?_
    refine awp_region (Θ := Θ) (Γ := Γ) [0, 1, 5, 6, 7, 8] ΘOK ΓOK rfl ?_
    repeat' (first
      | (with_reducible refine arun_nil ?_)
      | ((with_reducible apply arun_any); (focus exact rfl); (focus (simp (disch := first | assumption | (with_reducible exact okL_limbs _) | omega) only [go_sem, ↓reduceIte, Nat.reduceEqDiff, reduceCtorEq, Nat.reduceAdd, hyv]; with_reducible exact rfl)); with_reducible (first | refine okk_some ?_ | (refine okk_ite ?_ ?_; (focus omega)) | (refine okk_ifn ?_ ?_; (focus omega)))))
    all_goals (simp only [go_sem, ↓reduceIte, Nat.reduceEqDiff, reduceCtorEq, Nat.reduceAdd]; refine hK1 _ ?_; clear hK1 K1)
    refine awp_seq_k fun K1 hK1 => ?_
    have rest : ∀ σ : St, agree [(0, .lst (ints .u32 (limbs x))), (1, .lst (ints .u32 (limbs y)))] σ.t → σ.h = hlook [] → K1 σ := by
      intro σ hag hh
      refine hK1 σ ?_
      refine awp_forget _ hag ?_
      rw [hh]
      refine awp_seq_k fun K2 hK2 => ?_
      refine awp_region (Θ := Θ) (Γ := Γ) [1, 10] ΘOK ΓOK rfl ?_
      repeat' (first
        | (with_reducible refine arun_nil ?_)
        | ((with_reducible apply arun_any); (focus exact rfl); (focus (simp (disch := first | assumption | (with_reducible exact okL_limbs _) | omega) only [go_sem, ↓reduceIte, Nat.reduceEqDiff, reduceCtorEq, Nat.reduceAdd, hxv, hyv, hr]; with_reducible exact rfl)); with_reducible (first | refine okk_some ?_ | (refine okk_ite ?_ ?_; (focus omega)) | (refine okk_ifn ?_ ?_; (focus omega)))))
      all_goals (simp only [go_sem, ↓reduceIte, Nat.reduceEqDiff, reduceCtorEq, Nat.reduceAdd]; refine hK2 _ ?_; clear hK2 K2)
      refine awp_region (Θ := Θ) (Γ := Γ) [0, 1] ΘOK ΓOK rfl ?_
      repeat' (first
        | (with_reducible refine arun_nil ?_)
        | ((with_reducible apply arun_any); (focus exact rfl); (focus (simp (disch := first | assumption | (with_reducible exact okL_limbs _) | omega) only [go_sem, ↓reduceIte, Nat.reduceEqDiff, reduceCtorEq, Nat.reduceAdd]; with_reducible exact rfl)); with_reducible (first | refine okk_some ?_ | (refine okk_ite ?_ ?_; (focus omega)) | (refine okk_ifn ?_ ?_; (focus omega)))))
      all_goals (simp only [go_sem, ↓reduceIte, Nat.reduceEqDiff, reduceCtorEq, Nat.reduceAdd])
      have hlt := Nat.mod_lt x (show y > 0 by omega)
      have hml := limbs_length_mono (Nat.le_of_lt hlt)
      refine ⟨(y, x % y), ⟨h2, by simp only; omega, by simp only; rw [gcd_step, h3]⟩, ?_, by simp only; omega⟩
      ·
        first | (simp [agree_cons, agree_nil, slook_cons, vInt]; done) | (simp [agree_cons, agree_nil, slook_cons, vInt]; omega) | (simp [agree_cons, agree_nil, slook_cons, vInt]; grind)
    by_cases hsx : bl x ≤ 63
    ·
      have hdx : decide (bl x ≤ 63) = true := by simpa using hsx
      by_cases hsy : bl y ≤ 63
      ·
        have hdy : decide (bl y ≤ 63) = true := by simpa using hsy
        have hpx := bl_lt_pow hsx
        have hpy := bl_lt_pow hsy
        refine awp_seq_k fun K2 hK2 => ?_
        refine awp_region (Θ := Θ) (Γ := Γ) [0, 1, 5, 7, 32] ΘOK ΓOK rfl ?_
        repeat' (first
          | (with_reducible refine arun_nil ?_)
          | ((with_reducible apply arun_any); (focus exact rfl); (focus (simp (disch := first | assumption | (with_reducible exact okL_limbs _) | omega) only [go_sem, ↓reduceIte, Nat.reduceEqDiff, reduceCtorEq, Nat.reduceAdd, hdx, hdy, hsx, hsy]; with_reducible exact rfl)); with_reducible (first | refine okk_some ?_ | (refine okk_ite ?_ ?_; (focus omega)) | (refine okk_ifn ?_ ?_; (focus omega))))
          | ((with_reducible apply arun_gyes); (focus exact rfl); (focus (simp only [go_sem, ↓reduceIte, Nat.reduceEqDiff, reduceCtorEq, Nat.reduceAdd, hdx, hdy, hsx, hsy]; with_reducible exact rfl)); (focus first | assumption | exact rfl))
          | ((with_reducible apply arun_gundef); (focus exact rfl); (focus (simp only [go_sem, ↓reduceIte, Nat.reduceEqDiff, reduceCtorEq, Nat.reduceAdd, hdx, hdy, hsx, hsy]; done)))
          | ((with_reducible apply arun_gno); (focus exact rfl); (focus (simp only [go_sem, ↓reduceIte, Nat.reduceEqDiff, reduceCtorEq, Nat.reduceAdd, hdx, hdy, hsx, hsy]; with_reducible exact rfl)); (focus first | assumption | exact rfl))
          | ((with_reducible apply arun_guard); (focus exact rfl); (focus (simp only [go_sem, ↓reduceIte, Nat.reduceEqDiff, reduceCtorEq, Nat.reduceAdd, hdx, hdy, hsx, hsy]; with_reducible exact rfl)); (focus intro hb); rotate_left; (focus intro hb); rotate_right))
        all_goals (simp only [go_sem, ↓reduceIte, Nat.reduceEqDiff, reduceCtorEq, Nat.reduceAdd]; refine hK2 _ ?_; clear hK2 K2)
        apply awp_cond
        (focus (simp only [go_sem, ↓reduceIte, Nat.reduceEqDiff, reduceCtorEq, Nat.reduceAdd]; exact rfl))
        all_goals intro hc
        ·
          refine awp_seq_k fun K2 hK2 => ?_
          refine awp_block ?_   -- 2
          refine awp_loop_st (ι := Nat × Nat) (fun p => [(5, vInt .i64 p.1), (7, vInt .i64 p.2)]) (fun p => []) (fun p => p.2)
            (fun p => p.1 < 9223372036854775808 ∧ p.2 < 9223372036854775808 ∧ Nat.gcd p.1 p.2 = Nat.gcd a b) (x, y)
            ⟨by simp only; omega, by simp only; omega, h3⟩ (by simp [agree_cons, agree_nil, slook_cons, vInt]) (by simp [ints]) ?_
          clear hxv hyv hx hy hy0 hr rest hpx hpy hsx hsy hdx hdy hne h1 h2 h3 hK1
          clear hc
          rintro ⟨u, v⟩ ⟨g1, g2, g3⟩
          simp only at g1 g2 g3 ⊢
          refine awp_seq_k fun K3 hK3 => ?_
          refine awp_seq_k fun K4 hK4 => ?_
          refine awp_region (Θ := Θ) (Γ := Γ) [5, 7, 34] ΘOK ΓOK rfl ?_
          repeat' (first
            | (with_reducible refine arun_nil ?_)
            | ((with_reducible apply arun_any); (focus exact rfl); (focus (simp (disch := first | assumption | (with_reducible exact okL_limbs _) | omega) only [go_sem, ↓reduceIte, Nat.reduceEqDiff, reduceCtorEq, Nat.reduceAdd]; with_reducible exact rfl)); with_reducible (first | refine okk_some ?_ | (refine okk_ite ?_ ?_; (focus omega)) | (refine okk_ifn ?_ ?_; (focus omega)))))
          all_goals (simp only [go_sem, ↓reduceIte, Nat.reduceEqDiff, reduceCtorEq, Nat.reduceAdd]; refine hK4 _ ?_; clear hK4 K4)
          apply awp_cond
          (focus (simp only [go_sem, ↓reduceIte, Nat.reduceEqDiff, reduceCtorEq, Nat.reduceAdd]; exact rfl))
          all_goals intro hc
          ·
            have hv : 0 < v := by simpa using hc
            clear hc
            refine awp_skip ?_
            refine hK3 _ ?_; clear hK3 K3
            refine awp_block ?_   -- 3
            have em : (u : Int) % (v : Int) = ((u % v : Nat) : Int) := by omega
            have hlt := Nat.mod_lt u hv
            refine awp_draw (Θ := Θ) (Γ := Γ) [5, 7] ΘOK ΓOK mixed rfl (by decide +kernel) ?_
            repeat' (first
              | (with_reducible refine arunD_nil ?_)
              | ((with_reducible apply arunD_step); (focus (simp (disch := first | assumption | (with_reducible exact okL_limbs _) | omega) only [go_sem, ↓reduceIte, Nat.reduceEqDiff, reduceCtorEq, Nat.reduceAdd, em]; with_reducible exact rfl)))
              | ((with_reducible apply arunD_if); (focus (simp (disch := first | assumption | (with_reducible exact okL_limbs _) | omega) only [go_sem, ↓reduceIte, Nat.reduceEqDiff, reduceCtorEq, Nat.reduceAdd, em]; with_reducible exact rfl)); (focus omega))
              | ((with_reducible apply arunD_ifn); (focus (simp (disch := first | assumption | (with_reducible exact okL_limbs _) | omega) only [go_sem, ↓reduceIte, Nat.reduceEqDiff, reduceCtorEq, Nat.reduceAdd, em]; with_reducible exact rfl)); (focus omega)))
            all_goals (simp only [go_sem, ↓reduceIte, Nat.reduceEqDiff, reduceCtorEq, Nat.reduceAdd])
            refine ⟨(v, u % v), ⟨g2, by simp only; omega, by simp only; rw [gcd_step, g3]⟩, ?_, by simp only; omega⟩
            ·
              first | (simp [agree_cons, agree_nil, slook_cons, vInt]; done) | (simp [agree_cons, agree_nil, slook_cons, vInt]; omega) | (simp [agree_cons, agree_nil, slook_cons, vInt]; grind)
          ·
            have hv : v = 0 := by simpa using hc
            subst hv
            rw [Nat.gcd_zero_right] at g3
            refine awp_exit ?_   -- exit 2
            simp only [Nat.reduceEqDiff, ↓reduceIte]
            refine hK2 _ ?_; clear hK2 K2 hK3 K3
            refine awp_seq_k fun K2 hK2 => ?_
            refine awp_region (Θ := Θ) (Γ := Γ) [4] ΘOK ΓOK rfl ?_
            repeat' (first
              | (with_reducible refine arun_nil ?_)
              | ((with_reducible apply arun_any); (focus exact rfl); (focus (simp (disch := first | assumption | (with_reducible exact okL_limbs _) | omega) only [go_sem, ↓reduceIte, Nat.reduceEqDiff, reduceCtorEq, Nat.reduceAdd]; with_reducible exact rfl)); with_reducible (first | refine okk_some ?_ | (refine okk_ite ?_ ?_; (focus omega)) | (refine okk_ifn ?_ ?_; (focus omega)))))
            all_goals (simp only [go_sem, ↓reduceIte, Nat.reduceEqDiff, reduceCtorEq, Nat.reduceAdd]; refine hK2 _ ?_; clear hK2 K2)
            refine awp_ret ?_
            simp only [go_sem, ↓reduceIte, Nat.reduceEqDiff, reduceCtorEq, Nat.reduceAdd, Res, g3]
        · cases hc
      ·
        have hdy : decide (bl y ≤ 63) = false := by simpa using hsy
        refine awp_seq_k fun K2 hK2 => ?_
        refine awp_region (Θ := Θ) (Γ := Γ) [0, 1, 5, 7, 32] ΘOK ΓOK rfl ?_
        repeat' (first
          | (with_reducible refine arun_nil ?_)
          | ((with_reducible apply arun_any); (focus exact rfl); (focus (simp (disch := first | assumption | (with_reducible exact okL_limbs _) | omega) only [go_sem, ↓reduceIte, Nat.reduceEqDiff, reduceCtorEq, Nat.reduceAdd, hdx, hdy, hsx, hsy]; with_reducible exact rfl)); with_reducible (first | refine okk_some ?_ | (refine okk_ite ?_ ?_; (focus omega)) | (refine okk_ifn ?_ ?_; (focus omega))))
          | ((with_reducible apply arun_gyes); (focus exact rfl); (focus (simp only [go_sem, ↓reduceIte, Nat.reduceEqDiff, reduceCtorEq, Nat.reduceAdd, hdx, hdy, hsx, hsy]; with_reducible exact rfl)); (focus first | assumption | exact rfl))
          | ((with_reducible apply arun_gundef); (focus exact rfl); (focus (simp only [go_sem, ↓reduceIte, Nat.reduceEqDiff, reduceCtorEq, Nat.reduceAdd, hdx, hdy, hsx, hsy]; done)))
          | ((with_reducible apply arun_gno); (focus exact rfl); (focus (simp only [go_sem, ↓reduceIte, Nat.reduceEqDiff, reduceCtorEq, Nat.reduceAdd, hdx, hdy, hsx, hsy]; with_reducible exact rfl)); (focus first | assumption | exact rfl))
          | ((with_reducible apply arun_guard); (focus exact rfl); (focus (simp only [go_sem, ↓reduceIte, Nat.reduceEqDiff, reduceCtorEq, Nat.reduceAdd, hdx, hdy, hsx, hsy]; with_reducible exact rfl)); (focus intro hb); rotate_left; (focus intro hb); rotate_right))
        all_goals (simp only [go_sem, ↓reduceIte, Nat.reduceEqDiff, reduceCtorEq, Nat.reduceAdd]; refine hK2 _ ?_; clear hK2 K2)
        apply awp_cond
        (focus (simp only [go_sem, ↓reduceIte, Nat.reduceEqDiff, reduceCtorEq, Nat.reduceAdd]; exact rfl))
        all_goals intro hc
        · cases hc
        ·
          refine awp_skip ?_
          refine rest _ ?_ rfl
          first | (simp [agree_cons, agree_nil, slook_cons, vInt]; done) | (simp [agree_cons, agree_nil, slook_cons, vInt]; omega) | (simp [agree_cons, agree_nil, slook_cons, vInt]; grind)
    ·
      have hdx : decide (bl x ≤ 63) = false := by simpa using hsx
      refine awp_seq_k fun K2 hK2 => ?_
      refine awp_region (Θ := Θ) (Γ := Γ) [0, 1, 5, 7, 32] ΘOK ΓOK rfl ?_
      repeat' (first
        | (with_reducible refine arun_nil ?_)
        | ((with_reducible apply arun_any); (focus exact rfl); (focus (simp (disch := first | assumption | (with_reducible exact okL_limbs _) | omega) only [go_sem, ↓reduceIte, Nat.reduceEqDiff, reduceCtorEq, Nat.reduceAdd, hdx, hsx]; with_reducible exact rfl)); with_reducible (first | refine okk_some ?_ | (refine okk_ite ?_ ?_; (focus omega)) | (refine okk_ifn ?_ ?_; (focus omega))))
        | ((with_reducible apply arun_gyes); (focus exact rfl); (focus (simp only [go_sem, ↓reduceIte, Nat.reduceEqDiff, reduceCtorEq, Nat.reduceAdd, hdx, hsx]; with_reducible exact rfl)); (focus first | assumption | exact rfl))
        | ((with_reducible apply arun_gundef); (focus exact rfl); (focus (simp only [go_sem, ↓reduceIte, Nat.reduceEqDiff, reduceCtorEq, Nat.reduceAdd, hdx, hsx]; done)))
        | ((with_reducible apply arun_gno); (focus exact rfl); (focus (simp only [go_sem, ↓reduceIte, Nat.reduceEqDiff, reduceCtorEq, Nat.reduceAdd, hdx, hsx]; with_reducible exact rfl)); (focus first | assumption | exact rfl))
        | ((with_reducible apply arun_guard); (focus exact rfl); (focus (simp only [go_sem, ↓reduceIte, Nat.reduceEqDiff, reduceCtorEq, Nat.reduceAdd, hdx, hsx]; with_reducible exact rfl)); (focus intro hb); rotate_left; (focus intro hb); rotate_right))
      all_goals (simp only [go_sem, ↓reduceIte, Nat.reduceEqDiff, reduceCtorEq, Nat.reduceAdd]; refine hK2 _ ?_; clear hK2 K2)
      apply awp_cond
      (focus (simp only [go_sem, ↓reduceIte, Nat.reduceEqDiff, reduceCtorEq, Nat.reduceAdd]; exact rfl))
      all_goals intro hc
      · cases hc
      ·
        refine awp_skip ?_
        refine rest _ ?_ rfl
        first | (simp [agree_cons, agree_nil, slook_cons, vInt]; done) | (simp [agree_cons, agree_nil, slook_cons, vInt]; omega) | (simp [agree_cons, agree_nil, slook_cons, vInt]; grind)
  ·
    have hz : y = 0 := hy0.1 (by simpa using hc)
    subst hz
    rw [Nat.gcd_zero_right] at h3
    subst h3
    refine awp_exit ?_   -- exit 0
    simp only [Nat.reduceEqDiff, ↓reduceIte]
    refine hK0 _ ?_; clear hK0 K0 hK1 K1
    refine awp_seq_k fun K0 hK0 => ?_
    refine awp_region (Θ := Θ) (Γ := Γ) [4] ΘOK ΓOK rfl ?_
    repeat' (first
      | (with_reducible refine arun_nil ?_)
      | ((with_reducible apply arun_any); (focus exact rfl); (focus (simp (disch := first | assumption | (with_reducible exact okL_limbs _) | omega) only [go_sem, ↓reduceIte, Nat.reduceEqDiff, reduceCtorEq, Nat.reduceAdd]; with_reducible exact rfl)); with_reducible (first | refine okk_some ?_ | (refine okk_ite ?_ ?_; (focus omega)) | (refine okk_ifn ?_ ?_; (focus omega)))))
    all_goals (simp only [go_sem, ↓reduceIte, Nat.reduceEqDiff, reduceCtorEq, Nat.reduceAdd]; refine hK0 _ ?_; clear hK0 K0)
    refine awp_ret ?_
    simp only [go_sem, ↓reduceIte, Nat.reduceEqDiff, reduceCtorEq, Nat.reduceAdd, Res]
end RGcd

/-! ### NatGcds -/
namespace NatGcds
def Γ : FuncId → Abs.Spec
  | 18 => .pure spCut
  | 21 => .pure spAwake
  | 22 => .pure spSame
  | 31 => .pure spGcd
  | 32 => .pure spGcd
  | _ => .none
theorem ΓOK : ∀ f, SpecOK Try.prog f (Γ f) := by
  intro f
  unfold Γ
  split
  · exact ⟨⟨_, Try.func18, by decide +kernel, rfl⟩, Cut.ok⟩
  · exact ⟨⟨_, Try.func21, by decide +kernel, rfl⟩, Awake.ok⟩
  · exact ⟨⟨_, Try.func22, by decide +kernel, rfl⟩, Same22.ok⟩
  · exact ⟨⟨_, Try.func31, by decide +kernel, rfl⟩, Gcd.ok⟩
  · exact ⟨⟨_, Try.func32, by decide +kernel, rfl⟩, RGcd.ok⟩
  · trivial
attribute [local go_sem] Γ
theorem ok : PureOK Try.prog 6 spTrue2 := by
  refine pure_of_awp (n := 19) [4] Try.func6 rfl rfl rfl ?_
  intro M0 w0 args r h
  obtain ⟨L, M, rfl, hL, hLl, hM, hMl, hr⟩ := sp2_some h
  cases hr
  clear h
  refine ⟨by simp, ?_⟩
  have e20 : (20 : Int).toNat = 20 := rfl
  have hA := okL_take 20 hL
  have hC := okL_take 20 hM
  have hAl : (L.take 20).length ≤ 20 := by simp; omega
  have hCl : (M.take 20).length ≤ 20 := by simp; omega
  refine awp_seq_k fun K0 hK0 => ?_
  refine awp_region (Θ := Θ) (Γ := Γ) [0, 1] ΘOK ΓOK rfl ?_
  repeat' (first
    | (with_reducible refine arun_nil ?_)
    | ((with_reducible apply arun_any); (focus exact rfl); (focus (simp (disch := first | assumption | (with_reducible exact okL_limbs _) | omega) only [go_sem, ↓reduceIte, Nat.reduceEqDiff, reduceCtorEq, Nat.reduceAdd]; with_reducible exact rfl)); with_reducible (first | refine okk_some ?_ | (refine okk_ite ?_ ?_; (focus omega)) | (refine okk_ifn ?_ ?_; (focus omega)))))
  all_goals (simp only [go_sem, ↓reduceIte, Nat.reduceEqDiff, reduceCtorEq, Nat.reduceAdd]; refine hK0 _ ?_; clear hK0 K0)
  refine awp_seq_k fun K0 hK0 => ?_
  refine awp_region (Θ := Θ) (Γ := Γ) [0, 1] ΘOK ΓOK rfl ?_
  repeat' (first
    | (with_reducible refine arun_nil ?_)
    | ((with_reducible apply arun_any); (focus exact rfl); (focus (simp (disch := first | assumption | (with_reducible exact okL_limbs _) | omega) only [go_sem, ↓reduceIte, Nat.reduceEqDiff, reduceCtorEq, Nat.reduceAdd, e20]; with_reducible exact rfl)); with_reducible (first | refine okk_some ?_ | (refine okk_ite ?_ ?_; (focus omega)) | (refine okk_ifn ?_ ?_; (focus omega)))))
  all_goals (simp only [go_sem, ↓reduceIte, Nat.reduceEqDiff, reduceCtorEq, Nat.reduceAdd]; refine hK0 _ ?_; clear hK0 K0)
  generalize L.take 20 = A at *
  generalize M.take 20 = C at *
  have hG := okL_limbs (Nat.gcd (nv A) (nv C))
  have hGl : (limbs (Nat.gcd (nv A) (nv C))).length ≤ 20 := by
    refine limbs_length_le ?_
    have e1 := Nat.lt_of_lt_of_le (nv_lt hA) (Nat.pow_le_pow_right B_pos hAl)
    have e2 := Nat.lt_of_lt_of_le (nv_lt hC) (Nat.pow_le_pow_right B_pos hCl)
    rcases Nat.eq_zero_or_pos (nv A) with h0 | h0
    · rw [h0, Nat.gcd_zero_left]; exact e2
    · exact Nat.lt_of_le_of_lt (Nat.gcd_le_left _ h0) e1
  refine awp_seq_k fun K0 hK0 => ?_
  refine awp_region (Θ := Θ) (Γ := Γ) [4] ΘOK ΓOK rfl ?_
  repeat' (first
    | (with_reducible refine arun_nil ?_)
    | ((with_reducible apply arun_any); (focus exact rfl); (focus (simp (disch := first | assumption | (with_reducible exact okL_limbs _) | omega) only [go_sem, ↓reduceIte, Nat.reduceEqDiff, reduceCtorEq, Nat.reduceAdd]; with_reducible exact rfl)); with_reducible (first | refine okk_some ?_ | (refine okk_ite ?_ ?_; (focus omega)) | (refine okk_ifn ?_ ?_; (focus omega))))
    | ((with_reducible apply arun_gyes); (focus exact rfl); (focus (simp only [go_sem, ↓reduceIte, Nat.reduceEqDiff, reduceCtorEq, Nat.reduceAdd]; with_reducible exact rfl)); (focus first | assumption | exact rfl))
    | ((with_reducible apply arun_gundef); (focus exact rfl); (focus (simp only [go_sem, ↓reduceIte, Nat.reduceEqDiff, reduceCtorEq, Nat.reduceAdd]; done)))
    | ((with_reducible apply arun_gno); (focus exact rfl); (focus (simp only [go_sem, ↓reduceIte, Nat.reduceEqDiff, reduceCtorEq, Nat.reduceAdd]; with_reducible exact rfl)); (focus first | assumption | exact rfl))
    | ((with_reducible apply arun_guard); (focus exact rfl); (focus (simp only [go_sem, ↓reduceIte, Nat.reduceEqDiff, reduceCtorEq, Nat.reduceAdd]; with_reducible exact rfl)); (focus intro hb); rotate_left; (focus intro hb); rotate_right))
  all_goals (simp only [go_sem, ↓reduceIte, Nat.reduceEqDiff, reduceCtorEq, Nat.reduceAdd]; refine hK0 _ ?_; clear hK0 K0)
  refine awp_ret ?_
  simp only [go_sem, ↓reduceIte, Nat.reduceEqDiff, reduceCtorEq, Nat.reduceAdd, Res]
end NatGcds
end Go.Proofs

namespace Go.Proofs
open Go.Abs Go.NatMath
set_option linter.unusedVariables false
set_option linter.unusedSimpArgs false

/-! ### NatShares -/
namespace NatShares
def Γ : FuncId → Abs.Spec
  | 18 => .pure spCut
  | 19 => .pure spDivMod
  | 21 => .pure spAwake
  | 22 => .pure spSame
  | 29 => .pure spBits
  | 31 => .pure spGcd
  | 33 => .pure spMul
  | _ => .none
theorem ΓOK : ∀ f, SpecOK Try.prog f (Γ f) := by
  intro f
  unfold Γ
  split
  · exact ⟨⟨_, Try.func18, by decide +kernel, rfl⟩, Cut.ok⟩
  · exact ⟨⟨_, Try.func19, by decide +kernel, rfl⟩, DivMod.ok⟩
  · exact ⟨⟨_, Try.func21, by decide +kernel, rfl⟩, Awake.ok⟩
  · exact ⟨⟨_, Try.func22, by decide +kernel, rfl⟩, Same22.ok⟩
  · exact ⟨⟨_, Try.func29, by decide +kernel, rfl⟩, Bits.ok⟩
  · exact ⟨⟨_, Try.func31, by decide +kernel, rfl⟩, Gcd.ok⟩
  · exact ⟨⟨_, Try.func33, by decide +kernel, rfl⟩, Mul.ok⟩
  · trivial
attribute [local go_sem] Γ
theorem ok : PureOK Try.prog 12 spTrue3 := by
  refine pure_of_awp (n := 86) [6] Try.func12 rfl rfl rfl ?_
  intro M0 w0 args r h
  obtain ⟨L, M, D, rfl, ⟨hL, hLl⟩, ⟨hM, hMl⟩, ⟨hD, hDl⟩, hr⟩ := sp3_some h
  cases hr
  clear h
  refine ⟨by simp, ?_⟩
  have e30 : (30 : Int).toNat = 30 := rfl
  have hA := okL_take 30 hL
  have hB := okL_take 30 hM
  have hC := okL_take 30 hD
  have hAl : (L.take 30).length ≤ 30 := by simp; omega
  have hBl : (M.take 30).length ≤ 30 := by simp; omega
  have hCl : (D.take 30).length ≤ 30 := by simp; omega
  refine awp_seq_k fun K0 hK0 => ?_
  refine awp_region (Θ := Θ) (Γ := Γ) [0, 1, 2] ΘOK ΓOK rfl ?_
  repeat' (first
    | (with_reducible refine arun_nil ?_)
    | ((with_reducible apply arun_any); (focus exact rfl); (focus (simp (disch := first | assumption | (with_reducible exact okL_limbs _) | omega) only [go_sem, ↓reduceIte, Nat.reduceEqDiff, reduceCtorEq, Nat.reduceAdd]; with_reducible exact rfl)); with_reducible (first | refine okk_some ?_ | (refine okk_ite ?_ ?_; (focus omega)) | (refine okk_ifn ?_ ?_; (focus omega)))))
  all_goals (simp only [go_sem, ↓reduceIte, Nat.reduceEqDiff, reduceCtorEq, Nat.reduceAdd]; refine hK0 _ ?_; clear hK0 K0)
  refine awp_seq_k fun K0 hK0 => ?_
  refine awp_region (Θ := Θ) (Γ := Γ) [0, 1, 2, 7] ΘOK ΓOK rfl ?_
  repeat' (first
    | (with_reducible refine arun_nil ?_)
    | ((with_reducible apply arun_any); (focus exact rfl); (focus (simp (disch := first | assumption | (with_reducible exact okL_limbs _) | omega) only [go_sem, ↓reduceIte, Nat.reduceEqDiff, reduceCtorEq, Nat.reduceAdd]; with_reducible exact rfl)); with_reducible (first | refine okk_some ?_ | (refine okk_ite ?_ ?_; (focus omega)) | (refine okk_ifn ?_ ?_; (focus omega)))))
  all_goals (simp only [go_sem, ↓reduceIte, Nat.reduceEqDiff, reduceCtorEq, Nat.reduceAdd]; refine hK0 _ ?_; clear hK0 K0)
  refine awp_seq_k fun K0 hK0 => ?_
  refine awp_seq_k fun K1 hK1 => ?_
  refine awp_region (Θ := Θ) (Γ := Γ) [0, 1, 2, 7, 17] ΘOK ΓOK rfl ?_
  repeat' (first
    | (with_reducible refine arun_nil ?_)
    | ((with_reducible apply arun_any); (focus exact rfl); (focus (simp (disch := first | assumption | (with_reducible exact okL_limbs _) | omega) only [go_sem, ↓reduceIte, Nat.reduceEqDiff, reduceCtorEq, Nat.reduceAdd]; with_reducible exact rfl)); with_reducible (first | refine okk_some ?_ | (refine okk_ite ?_ ?_; (focus omega)) | (refine okk_ifn ?_ ?_; (focus omega)))))
  all_goals (simp only [go_sem, ↓reduceIte, Nat.reduceEqDiff, reduceCtorEq, Nat.reduceAdd]; refine hK1 _ ?_; clear hK1 K1)
  apply awp_cond
  (focus (simp only [go_sem, ↓reduceIte, Nat.reduceEqDiff, reduceCtorEq, Nat.reduceAdd]; exact rfl))
  all_goals intro hc
  · cases hc
  ·
    refine awp_skip ?_
    refine hK0 _ ?_; clear hK0 K0
    refine awp_seq_k fun K0 hK0 => ?_
    refine awp_region (Θ := Θ) (Γ := Γ) [0, 1, 2, 7] ΘOK ΓOK rfl ?_
    repeat' (first
      | (with_reducible refine arun_nil ?_)
      | ((with_reducible apply arun_any); (focus exact rfl); (focus (simp (disch := first | assumption | (with_reducible exact okL_limbs _) | omega) only [go_sem, ↓reduceIte, Nat.reduceEqDiff, reduceCtorEq, Nat.reduceAdd, e30]; with_reducible exact rfl)); with_reducible (first | refine okk_some ?_ | (refine okk_ite ?_ ?_; (focus omega)) | (refine okk_ifn ?_ ?_; (focus omega)))))
    all_goals (simp only [go_sem, ↓reduceIte, Nat.reduceEqDiff, reduceCtorEq, Nat.reduceAdd]; refine hK0 _ ?_; clear hK0 K0)
    generalize L.take 30 = A at *
    generalize M.take 30 = E at *
    generalize D.take 30 = F at *
    have eA := Nat.lt_of_lt_of_le (nv_lt hA) (Nat.pow_le_pow_right B_pos hAl)
    have eE := Nat.lt_of_lt_of_le (nv_lt hB) (Nat.pow_le_pow_right B_pos hBl)
    have eF := Nat.lt_of_lt_of_le (nv_lt hC) (Nat.pow_le_pow_right B_pos hCl)
    refine awp_seq_k fun K0 hK0 => ?_
    refine awp_region (Θ := Θ) (Γ := Γ) [0, 1, 2, 7, 8] ΘOK ΓOK rfl ?_
    repeat' (first
      | (with_reducible refine arun_nil ?_)
      | ((with_reducible apply arun_any); (focus exact rfl); (focus (simp (disch := first | assumption | (with_reducible exact okL_limbs _) | omega) only [go_sem, ↓reduceIte, Nat.reduceEqDiff, reduceCtorEq, Nat.reduceAdd]; with_reducible exact rfl)); with_reducible (first | refine okk_some ?_ | (refine okk_ite ?_ ?_; (focus omega)) | (refine okk_ifn ?_ ?_; (focus omega)))))
    all_goals (simp only [go_sem, ↓reduceIte, Nat.reduceEqDiff, reduceCtorEq, Nat.reduceAdd]; refine hK0 _ ?_; clear hK0 K0)
    have hG := okL_limbs (Nat.gcd (nv A) (nv E))
    have hGlt : Nat.gcd (nv A) (nv E) < B ^ 30 := by
      rcases Nat.eq_zero_or_pos (nv A) with h0 | h0
      · rw [h0, Nat.gcd_zero_left]; exact eE
      · exact Nat.lt_of_le_of_lt (Nat.gcd_le_left _ h0) eA
    have hGl := limbs_length_le hGlt
    have hGv := nv_limbs (Nat.gcd (nv A) (nv E))
    by_cases hg : Nat.gcd (nv A) (nv E) = 0
    ·
      obtain ⟨ha, he⟩ := Nat.gcd_eq_zero_iff.1 hg
      refine awp_seq_k fun K0 hK0 => ?_
      have hd : decide (Nat.gcd (nv A) (nv E) = 0) = true := by simpa using hg
      refine awp_seq_k fun K1 hK1 => ?_
      refine awp_region (Θ := Θ) (Γ := Γ) [0, 1, 2, 7, 8, 29] ΘOK ΓOK rfl ?_
      repeat' (first
        | (with_reducible refine arun_nil ?_)
        | ((with_reducible apply arun_any); (focus exact rfl); (focus (simp (disch := first | assumption | (with_reducible exact okL_limbs _) | omega) only [go_sem, ↓reduceIte, Nat.reduceEqDiff, reduceCtorEq, Nat.reduceAdd, hGv, bl_beq, hd]; with_reducible exact rfl)); with_reducible (first | refine okk_some ?_ | (refine okk_ite ?_ ?_; (focus omega)) | (refine okk_ifn ?_ ?_; (focus omega)))))
      all_goals (simp only [go_sem, ↓reduceIte, Nat.reduceEqDiff, reduceCtorEq, Nat.reduceAdd]; refine hK1 _ ?_; clear hK1 K1)
      apply awp_cond
      (focus (simp only [go_sem, ↓reduceIte, Nat.reduceEqDiff, reduceCtorEq, Nat.reduceAdd]; exact rfl))
      all_goals intro hc
      ·
        have hda : decide (nv A = 0) = true := by simpa using ha
        have hde : decide (nv E = 0) = true := by simpa using he
        refine awp_seq_k fun K1 hK1 => ?_
        refine awp_region (Θ := Θ) (Γ := Γ) [6] ΘOK ΓOK rfl ?_
        repeat' (first
          | (with_reducible refine arun_nil ?_)
          | ((with_reducible apply arun_any); (focus exact rfl); (focus (simp (disch := first | assumption | (with_reducible exact okL_limbs _) | omega) only [go_sem, ↓reduceIte, Nat.reduceEqDiff, reduceCtorEq, Nat.reduceAdd, bl_beq, hda, hde]; with_reducible exact rfl)); with_reducible (first | refine okk_some ?_ | (refine okk_ite ?_ ?_; (focus omega)) | (refine okk_ifn ?_ ?_; (focus omega))))
          | ((with_reducible apply arun_gyes); (focus exact rfl); (focus (simp only [go_sem, ↓reduceIte, Nat.reduceEqDiff, reduceCtorEq, Nat.reduceAdd, bl_beq, hda, hde]; with_reducible exact rfl)); (focus first | assumption | exact rfl))
          | ((with_reducible apply arun_gundef); (focus exact rfl); (focus (simp only [go_sem, ↓reduceIte, Nat.reduceEqDiff, reduceCtorEq, Nat.reduceAdd, bl_beq, hda, hde]; done)))
          | ((with_reducible apply arun_gno); (focus exact rfl); (focus (simp only [go_sem, ↓reduceIte, Nat.reduceEqDiff, reduceCtorEq, Nat.reduceAdd, bl_beq, hda, hde]; with_reducible exact rfl)); (focus first | assumption | exact rfl))
          | ((with_reducible apply arun_guard); (focus exact rfl); (focus (simp only [go_sem, ↓reduceIte, Nat.reduceEqDiff, reduceCtorEq, Nat.reduceAdd, bl_beq, hda, hde]; with_reducible exact rfl)); (focus intro hb); rotate_left; (focus intro hb); rotate_right))
        all_goals (simp only [go_sem, ↓reduceIte, Nat.reduceEqDiff, reduceCtorEq, Nat.reduceAdd]; refine hK1 _ ?_; clear hK1 K1)
        refine awp_ret ?_
        simp only [go_sem, ↓reduceIte, Nat.reduceEqDiff, reduceCtorEq, Nat.reduceAdd, Res]
      · cases hc
    ·
      refine awp_seq_k fun K0 hK0 => ?_
      have hd : decide (Nat.gcd (nv A) (nv E) = 0) = false := by simpa using hg
      refine awp_seq_k fun K1 hK1 => ?_
      refine awp_region (Θ := Θ) (Γ := Γ) [0, 1, 2, 7, 8, 29] ΘOK ΓOK rfl ?_
      repeat' (first
        | (with_reducible refine arun_nil ?_)
        | ((with_reducible apply arun_any); (focus exact rfl); (focus (simp (disch := first | assumption | (with_reducible exact okL_limbs _) | omega) only [go_sem, ↓reduceIte, Nat.reduceEqDiff, reduceCtorEq, Nat.reduceAdd, hGv, bl_beq, hd]; with_reducible exact rfl)); with_reducible (first | refine okk_some ?_ | (refine okk_ite ?_ ?_; (focus omega)) | (refine okk_ifn ?_ ?_; (focus omega)))))
      all_goals (simp only [go_sem, ↓reduceIte, Nat.reduceEqDiff, reduceCtorEq, Nat.reduceAdd]; refine hK1 _ ?_; clear hK1 K1)
      apply awp_cond
      (focus (simp only [go_sem, ↓reduceIte, Nat.reduceEqDiff, reduceCtorEq, Nat.reduceAdd]; exact rfl))
      all_goals intro hc
      · cases hc
      ·
        refine awp_skip ?_
        refine hK0 _ ?_; clear hK0 K0
        have hr1 := rDM_pos (a := nv A) hg
        rw [Nat.mod_eq_zero_of_dvd (Nat.gcd_dvd_left _ _), limbs_zero] at hr1
        have hr2 := rDM_pos (a := nv E) hg
        rw [Nat.mod_eq_zero_of_dvd (Nat.gcd_dvd_right _ _), limbs_zero] at hr2
        have hcm := Nat.gcd_comm (nv E) (nv A)
        have hmr := Nat.gcd_mul_right (nv A) (nv F) (nv E)
        have bnd : ∀ {x y : Nat}, x < B ^ 30 → y < B ^ 30 → (limbs (x * y)).length ≤ 60 := fun hx hy => by
          refine limbs_length_le ?_
          rw [show (60 : Nat) = 30 + 30 from rfl, Nat.pow_add]
          exact Nat.mul_lt_mul_of_lt_of_lt hx hy
        have hP1 := okL_limbs (nv A * nv F)
        have hP2 := okL_limbs (nv E * nv F)
        have hP3 := okL_limbs (Nat.gcd (nv A) (nv E) * nv F)
        have hL1 := bnd eA eF
        have hL2 := bnd eE eF
        have hL3 := bnd hGlt eF
        have hV1 := nv_limbs (nv A * nv F)
        have hV2 := nv_limbs (nv E * nv F)
        clear bnd eA eE eF hGlt
        refine awp_seq_k fun K0 hK0 => ?_
        refine awp_region (Θ := Θ) (Γ := Γ) [0, 1, 2, 7, 8, 10] ΘOK ΓOK rfl ?_
        repeat' (first
          | (with_reducible refine arun_nil ?_)
          | ((with_reducible apply arun_any); (focus exact rfl); (focus (simp (disch := first | assumption | (with_reducible exact okL_limbs _) | omega) only [go_sem, ↓reduceIte, Nat.reduceEqDiff, reduceCtorEq, Nat.reduceAdd, hGv, hr1]; with_reducible exact rfl)); with_reducible (first | refine okk_some ?_ | (refine okk_ite ?_ ?_; (focus omega)) | (refine okk_ifn ?_ ?_; (focus omega)))))
        all_goals (simp only [go_sem, ↓reduceIte, Nat.reduceEqDiff, reduceCtorEq, Nat.reduceAdd]; refine hK0 _ ?_; clear hK0 K0)
        refine awp_seq_k fun K0 hK0 => ?_
        refine awp_region (Θ := Θ) (Γ := Γ) [0, 1, 2, 7, 8, 10, 13] ΘOK ΓOK rfl ?_
        repeat' (first
          | (with_reducible refine arun_nil ?_)
          | ((with_reducible apply arun_any); (focus exact rfl); (focus (simp (disch := first | assumption | (with_reducible exact okL_limbs _) | omega) only [go_sem, ↓reduceIte, Nat.reduceEqDiff, reduceCtorEq, Nat.reduceAdd, hGv, hr2]; with_reducible exact rfl)); with_reducible (first | refine okk_some ?_ | (refine okk_ite ?_ ?_; (focus omega)) | (refine okk_ifn ?_ ?_; (focus omega)))))
        all_goals (simp only [go_sem, ↓reduceIte, Nat.reduceEqDiff, reduceCtorEq, Nat.reduceAdd]; refine hK0 _ ?_; clear hK0 K0)
        clear hr1 hr2 hd
        have hdec1 : ∀ x : List Int, decide (x = x) = true := fun x => by simp
        have e00 : (((0 : Nat) : Int) == 0) = true := rfl
        refine awp_seq_k fun K0 hK0 => ?_
        refine awp_region (Θ := Θ) (Γ := Γ) [6] ΘOK ΓOK rfl ?_
        repeat' (first
          | (with_reducible refine arun_nil ?_)
          | ((with_reducible apply arun_any); (focus exact rfl); (focus (simp (disch := first | assumption | (with_reducible exact okL_limbs _) | omega) only [go_sem, ↓reduceIte, Nat.reduceEqDiff, reduceCtorEq, Nat.reduceAdd, hGv, hV1, hV2, hcm, hmr, e00, hdec1]; with_reducible exact rfl)); with_reducible (first | refine okk_some ?_ | (refine okk_ite ?_ ?_; (focus omega)) | (refine okk_ifn ?_ ?_; (focus omega))))
          | ((with_reducible apply arun_gyes); (focus exact rfl); (focus (simp only [go_sem, ↓reduceIte, Nat.reduceEqDiff, reduceCtorEq, Nat.reduceAdd, hGv, hV1, hV2, hcm, hmr, e00, hdec1]; with_reducible exact rfl)); (focus first | assumption | exact rfl))
          | ((with_reducible apply arun_gundef); (focus exact rfl); (focus (simp only [go_sem, ↓reduceIte, Nat.reduceEqDiff, reduceCtorEq, Nat.reduceAdd, hGv, hV1, hV2, hcm, hmr, e00, hdec1]; done)))
          | ((with_reducible apply arun_gno); (focus exact rfl); (focus (simp only [go_sem, ↓reduceIte, Nat.reduceEqDiff, reduceCtorEq, Nat.reduceAdd, hGv, hV1, hV2, hcm, hmr, e00, hdec1]; with_reducible exact rfl)); (focus first | assumption | exact rfl))
          | ((with_reducible apply arun_guard); (focus exact rfl); (focus (simp only [go_sem, ↓reduceIte, Nat.reduceEqDiff, reduceCtorEq, Nat.reduceAdd, hGv, hV1, hV2, hcm, hmr, e00, hdec1]; with_reducible exact rfl)); (focus intro hb); rotate_left; (focus intro hb); rotate_right))
        all_goals (simp only [go_sem, ↓reduceIte, Nat.reduceEqDiff, reduceCtorEq, Nat.reduceAdd]; refine hK0 _ ?_; clear hK0 K0)
        refine awp_ret ?_
        simp only [go_sem, ↓reduceIte, Nat.reduceEqDiff, reduceCtorEq, Nat.reduceAdd, Res]
end NatShares
end Go.Proofs

namespace Go.Proofs
open Go.Abs Go.NatMath
set_option linter.unusedVariables false
set_option linter.unusedSimpArgs false

/-! ### nat.Shift -/
def rShift (a : Nat) (n : Int) : AV := if 1048576 < n ∨ n < -1048576 then .tup [.lst (ints .u32 []), .val (.bool false)] else .tup [.lst (ints .u32 (limbs (if 0 ≤ n then a * 2 ^ n.toNat else a / 2 ^ (-n).toNat))), .val (.bool true)]
def spShift : List AV → Option AV
  | [x, .val (.int .i64 n)] => (decK 40000 x).bind fun L => if -9223372036854775808 ≤ n ∧ n ≤ 9223372036854775807 then some (rShift (nv L) n) else none
  | _ => none
attribute [go_sem] spShift
theorem spShift_some {args : List AV} {r : AV} (h : spShift args = some r) : ∃ (L : List Int) (n : Int), args = [.lst (ints .u32 L), .val (.int .i64 n)] ∧ okL L ∧ L.length + 40000 ≤ 35184372088831 ∧ (-9223372036854775808 ≤ n ∧ n ≤ 9223372036854775807) ∧ r = rShift (nv L) n := by
  unfold spShift at h
  split at h
  · obtain ⟨L, h1, h2⟩ := Option.bind_eq_some_iff.1 h
    obtain ⟨rfl, g2, g3⟩ := decK_some h1
    split at h2
    · rename_i hc
      cases h2
      exact ⟨L, _, rfl, g2, g3, hc, rfl⟩
    · cases h2
  · cases h
theorem nv_up (a k la : Nat) (h : a * 2 ^ (k % 32) < B ^ (la + 1)) : nv (List.replicate (k / 32) 0 ++ lim (la + 1) (a * 2 ^ (k % 32))) = a * 2 ^ k := by
  rw [nv_append, nv_replicate, Nat.zero_add, nv_lim _ _ h, List.length_replicate, B_pow, Nat.mul_left_comm, ← Nat.pow_add]
  congr 2; omega
namespace Shift
def Γ : FuncId → Abs.Spec
  | 47 => .pure spTrim
  | 58 => .pure spUp
  | 59 => .pure spDown
  | _ => .none
theorem ΓOK : ∀ f, SpecOK Try.prog f (Γ f) := by
  intro f
  unfold Γ
  split
  · exact ⟨⟨_, Try.func47, by decide +kernel, rfl⟩, Trim.ok⟩
  · exact ⟨⟨_, Try.func58, by decide +kernel, rfl⟩, Up.ok⟩
  · exact ⟨⟨_, Try.func59, by decide +kernel, rfl⟩, Down.ok⟩
  · trivial
attribute [local go_sem] Γ
theorem ok : PureOK Try.prog 35 spShift := by
  refine pure_of_awp (n := 41) [4, 5] Try.func35 rfl rfl rfl ?_
  intro M0 w0 args r h
  obtain ⟨L, n, rfl, hL, hLl, hn, rfl⟩ := spShift_some h
  clear h
  refine ⟨by simp, ?_⟩
  refine awp_seq_k fun K0 hK0 => ?_
  refine awp_region (Θ := Θ) (Γ := Γ) [0, 1] ΘOK ΓOK rfl ?_
  repeat' (first
    | (with_reducible refine arun_nil ?_)
    | ((with_reducible apply arun_any); (focus exact rfl); (focus (simp (disch := first | assumption | (with_reducible exact okL_limbs _) | omega) only [go_sem, ↓reduceIte, Nat.reduceEqDiff, reduceCtorEq, Nat.reduceAdd]; with_reducible exact rfl)); with_reducible (first | refine okk_some ?_ | (refine okk_ite ?_ ?_; (focus omega)) | (refine okk_ifn ?_ ?_; (focus omega)))))
  all_goals (simp only [go_sem, ↓reduceIte, Nat.reduceEqDiff, reduceCtorEq, Nat.reduceAdd]; refine hK0 _ ?_; clear hK0 K0)
  refine awp_seq_k fun K0 hK0 => ?_
  have rest : -1048576 ≤ n → n ≤ 1048576 → ∀ σ : St, agree [(0, .lst (ints .u32 L)), (1, vInt .i64 n)] σ.t → σ.h = hlook [] → K0 σ := by
    intro hn1 hn2 σ hag hh
    refine hK0 σ ?_
    refine awp_forget _ hag ?_
    rw [hh]
    clear hag hh hK0 K0
    have hA := okL_limbs (nv L)
    have hAl := limbs_length_nv hL
    have hAv := nv_limbs (nv L)
    refine awp_seq_k fun K0 hK0 => ?_
    refine awp_region (Θ := Θ) (Γ := Γ) [0, 1] ΘOK ΓOK rfl ?_
    repeat' (first
      | (with_reducible refine arun_nil ?_)
      | ((with_reducible apply arun_any); (focus exact rfl); (focus (simp (disch := first | assumption | (with_reducible exact okL_limbs _) | omega) only [go_sem, ↓reduceIte, Nat.reduceEqDiff, reduceCtorEq, Nat.reduceAdd]; with_reducible exact rfl)); with_reducible (first | refine okk_some ?_ | (refine okk_ite ?_ ?_; (focus omega)) | (refine okk_ifn ?_ ?_; (focus omega)))))
    all_goals (simp only [go_sem, ↓reduceIte, Nat.reduceEqDiff, reduceCtorEq, Nat.reduceAdd]; refine hK0 _ ?_; clear hK0 K0)
    generalize ha : nv L = a at *
    have hAlt := nv_lt hA
    rw [hAv] at hAlt
    generalize limbs a = A at *
    refine awp_seq_k fun K0 hK0 => ?_
    refine awp_seq_k fun K1 hK1 => ?_
    refine awp_region (Θ := Θ) (Γ := Γ) [0, 1, 16] ΘOK ΓOK rfl ?_
    repeat' (first
      | (with_reducible refine arun_nil ?_)
      | ((with_reducible apply arun_any); (focus exact rfl); (focus (simp (disch := first | assumption | (with_reducible exact okL_limbs _) | omega) only [go_sem, ↓reduceIte, Nat.reduceEqDiff, reduceCtorEq, Nat.reduceAdd]; with_reducible exact rfl)); with_reducible (first | refine okk_some ?_ | (refine okk_ite ?_ ?_; (focus omega)) | (refine okk_ifn ?_ ?_; (focus omega)))))
    all_goals (simp only [go_sem, ↓reduceIte, Nat.reduceEqDiff, reduceCtorEq, Nat.reduceAdd]; refine hK1 _ ?_; clear hK1 K1)
    apply awp_cond
    (focus (simp only [go_sem, ↓reduceIte, Nat.reduceEqDiff, reduceCtorEq, Nat.reduceAdd]; exact rfl))
    all_goals intro hc
    ·
      obtain ⟨k, rfl⟩ := Int.eq_ofNat_of_zero_le (show 0 ≤ n by simpa using hc)
      clear hc
      have hk : k ≤ 1048576 := by omega
      have e1 : ((k : Int) / 32).toNat = k / 32 := by omega
      have e2 : ((k : Int) % 32).toNat = k % 32 := by omega
      have hB : a * 2 ^ (k % 32) < B ^ (A.length + 1) := by
        rw [Nat.pow_succ]
        refine Nat.mul_lt_mul_of_lt_of_le hAlt ?_ B_pos
        have : 2 ^ (k % 32) ≤ 2 ^ 32 := Nat.pow_le_pow_right (by decide) (by omega)
        unfold B
        omega
      have hU := okL_lim (A.length + 1) (a * 2 ^ (k % 32))
      have hUl := lim_length (A.length + 1) (a * 2 ^ (k % 32))
      have hv := nv_up a k A.length hB
      generalize hS : lim (A.length + 1) (a * 2 ^ (k % 32)) = S at *
      refine awp_seq_k fun K1 hK1 => ?_
      refine awp_draw (Θ := Θ) (Γ := Γ) [6] ΘOK ΓOK mixed rfl (by decide +kernel) ?_
      repeat' (first
        | (with_reducible refine arunD_nil ?_)
        | ((with_reducible apply arunD_step); (focus (simp (disch := first | assumption | (with_reducible exact okL_limbs _) | omega) only [go_sem, ↓reduceIte, Nat.reduceEqDiff, reduceCtorEq, Nat.reduceAdd, hAv, e1, e2, hS]; with_reducible exact rfl)))
        | ((with_reducible apply arunD_if); (focus (simp (disch := first | assumption | (with_reducible exact okL_limbs _) | omega) only [go_sem, ↓reduceIte, Nat.reduceEqDiff, reduceCtorEq, Nat.reduceAdd, hAv, e1, e2, hS]; with_reducible exact rfl)); (focus omega))
        | ((with_reducible apply arunD_ifn); (focus (simp (disch := first | assumption | (with_reducible exact okL_limbs _) | omega) only [go_sem, ↓reduceIte, Nat.reduceEqDiff, reduceCtorEq, Nat.reduceAdd, hAv, e1, e2, hS]; with_reducible exact rfl)); (focus omega)))
      all_goals (simp only [go_sem, ↓reduceIte, Nat.reduceEqDiff, reduceCtorEq, Nat.reduceAdd])
      refine hK1 _ ?_; clear hK1 K1
      have hO : okL (List.replicate (k / 32) 0 ++ S) := okL_append.2 ⟨okL_replicate _, hU⟩
      have hOl : (List.replicate (k / 32) 0 ++ S).length ≤ 35184372088831 := by simp; omega
      refine awp_seq_k fun K1 hK1 => ?_
      refine awp_region (Θ := Θ) (Γ := Γ) [4, 5] ΘOK ΓOK rfl ?_
      repeat' (first
        | (with_reducible refine arun_nil ?_)
        | ((with_reducible apply arun_any); (focus exact rfl); (focus (simp (disch := first | assumption | (with_reducible exact okL_limbs _) | omega) only [go_sem, ↓reduceIte, Nat.reduceEqDiff, reduceCtorEq, Nat.reduceAdd, hv]; with_reducible exact rfl)); with_reducible (first | refine okk_some ?_ | (refine okk_ite ?_ ?_; (focus omega)) | (refine okk_ifn ?_ ?_; (focus omega)))))
      all_goals (simp only [go_sem, ↓reduceIte, Nat.reduceEqDiff, reduceCtorEq, Nat.reduceAdd]; refine hK1 _ ?_; clear hK1 K1)
      refine awp_ret ?_
      have h1 : ¬ (1048576 < (k : Int) ∨ (k : Int) < -1048576) := by omega
      have h2 : 0 ≤ (k : Int) := by omega
      simp only [go_sem, ↓reduceIte, Nat.reduceEqDiff, reduceCtorEq, Nat.reduceAdd, Res, rShift, h1, h2]
    ·
      obtain ⟨k, rfl⟩ : ∃ k : Nat, n = -(k : Int) := ⟨(-n).toNat, by simp at hc; omega⟩
      have hk0 : 0 < k := by simp at hc; omega
      clear hc
      have hk : k ≤ 1048576 := by omega
      have e0 : 0 - -(k : Int) = (k : Int) := by omega
      have e1 : ((k : Int) / 32).toNat = k / 32 := by omega
      have e2 : ((k : Int) % 32).toNat = k % 32 := by omega
      have h1 : ¬ (1048576 < -(k : Int) ∨ -(k : Int) < -1048576) := by omega
      have h2 : ¬ 0 ≤ -(k : Int) := by omega
      have h3 : (- -(k : Int)).toNat = k := by omega
      refine awp_skip ?_
      refine hK0 _ ?_; clear hK0 K0
      refine awp_seq_k fun K0 hK0 => ?_
      refine awp_region (Θ := Θ) (Γ := Γ) [0, 1] ΘOK ΓOK rfl ?_
      repeat' (first
        | (with_reducible refine arun_nil ?_)
        | ((with_reducible apply arun_any); (focus exact rfl); (focus (simp (disch := first | assumption | (with_reducible exact okL_limbs _) | omega) only [go_sem, ↓reduceIte, Nat.reduceEqDiff, reduceCtorEq, Nat.reduceAdd, e0]; with_reducible exact rfl)); with_reducible (first | refine okk_some ?_ | (refine okk_ite ?_ ?_; (focus omega)) | (refine okk_ifn ?_ ?_; (focus omega)))))
      all_goals (simp only [go_sem, ↓reduceIte, Nat.reduceEqDiff, reduceCtorEq, Nat.reduceAdd]; refine hK0 _ ?_; clear hK0 K0)
      refine awp_seq_k fun K0 hK0 => ?_
      refine awp_seq_k fun K1 hK1 => ?_
      refine awp_region (Θ := Θ) (Γ := Γ) [0, 1, 33] ΘOK ΓOK rfl ?_
      repeat' (first
        | (with_reducible refine arun_nil ?_)
        | ((with_reducible apply arun_any); (focus exact rfl); (focus (simp (disch := first | assumption | (with_reducible exact okL_limbs _) | omega) only [go_sem, ↓reduceIte, Nat.reduceEqDiff, reduceCtorEq, Nat.reduceAdd]; with_reducible exact rfl)); with_reducible (first | refine okk_some ?_ | (refine okk_ite ?_ ?_; (focus omega)) | (refine okk_ifn ?_ ?_; (focus omega)))))
      all_goals (simp only [go_sem, ↓reduceIte, Nat.reduceEqDiff, reduceCtorEq, Nat.reduceAdd]; refine hK1 _ ?_; clear hK1 K1)
      have ep : 2 ^ k = B ^ (k / 32) * 2 ^ (k % 32) := by rw [B_pow, ← Nat.pow_add]; congr 1; omega
      apply awp_cond
      (focus (simp only [go_sem, ↓reduceIte, Nat.reduceEqDiff, reduceCtorEq, Nat.reduceAdd]; exact rfl))
      all_goals intro hc
      ·
        have hge : A.length ≤ k / 32 := by simp at hc; omega
        have hz : a / 2 ^ k = 0 := by
          refine Nat.div_eq_of_lt (Nat.lt_of_lt_of_le hAlt ?_)
          rw [ep]
          exact Nat.le_trans (Nat.pow_le_pow_right B_pos hge) (Nat.le_mul_of_pos_right _ (Nat.pow_pos (by decide)))
        refine awp_seq_k fun K1 hK1 => ?_
        refine awp_region (Θ := Θ) (Γ := Γ) [4, 5] ΘOK ΓOK rfl ?_
        repeat' (first
          | (with_reducible refine arun_nil ?_)
          | ((with_reducible apply arun_any); (focus exact rfl); (focus (simp (disch := first | assumption | (with_reducible exact okL_limbs _) | omega) only [go_sem, ↓reduceIte, Nat.reduceEqDiff, reduceCtorEq, Nat.reduceAdd]; with_reducible exact rfl)); with_reducible (first | refine okk_some ?_ | (refine okk_ite ?_ ?_; (focus omega)) | (refine okk_ifn ?_ ?_; (focus omega)))))
        all_goals (simp only [go_sem, ↓reduceIte, Nat.reduceEqDiff, reduceCtorEq, Nat.reduceAdd]; refine hK1 _ ?_; clear hK1 K1)
        refine awp_ret ?_
        simp only [go_sem, ↓reduceIte, Nat.reduceEqDiff, reduceCtorEq, Nat.reduceAdd, Res, rShift, h1, h2, h3, hz, limbs_zero, lst_nil']
      ·
        have hlt : k / 32 < A.length := by simp at hc; omega
        refine awp_skip ?_
        refine hK0 _ ?_; clear hK0 K0
        have hdr : ((A.take A.length).drop (k / 32)) = A.drop (k / 32) := by rw [List.take_length]
        have hdo := okL_drop (k / 32) hA
        have hdl : (A.drop (k / 32)).length ≤ 35184372088831 := by simp; omega
        have hdv : nv (A.drop (k / 32)) / 2 ^ (k % 32) = a / 2 ^ k := by rw [nv_drop hA, hAv, Nat.div_div_eq_div_mul, ← ep]
        refine awp_seq_k fun K0 hK0 => ?_
        refine awp_region (Θ := Θ) (Γ := Γ) [4, 5] ΘOK ΓOK rfl ?_
        repeat' (first
          | (with_reducible refine arun_nil ?_)
          | ((with_reducible apply arun_any); (focus exact rfl); (focus (simp (disch := first | assumption | (with_reducible exact okL_limbs _) | omega) only [go_sem, ↓reduceIte, Nat.reduceEqDiff, reduceCtorEq, Nat.reduceAdd, e1, e2, hdr, hdv]; with_reducible exact rfl)); with_reducible (first | refine okk_some ?_ | (refine okk_ite ?_ ?_; (focus omega)) | (refine okk_ifn ?_ ?_; (focus omega)))))
        all_goals (simp only [go_sem, ↓reduceIte, Nat.reduceEqDiff, reduceCtorEq, Nat.reduceAdd]; refine hK0 _ ?_; clear hK0 K0)
        refine awp_ret ?_
        simp only [go_sem, ↓reduceIte, Nat.reduceEqDiff, reduceCtorEq, Nat.reduceAdd, Res, rShift, h1, h2, h3]
  by_cases hb : n > 1048576
  ·
    have hd : decide (n > 1048576) = true := by simpa using hb
    refine awp_seq_k fun K1 hK1 => ?_
    refine awp_region (Θ := Θ) (Γ := Γ) [0, 1, 12] ΘOK ΓOK rfl ?_
    repeat' (first
      | (with_reducible refine arun_nil ?_)
      | ((with_reducible apply arun_any); (focus exact rfl); (focus (simp (disch := first | assumption | (with_reducible exact okL_limbs _) | omega) only [go_sem, ↓reduceIte, Nat.reduceEqDiff, reduceCtorEq, Nat.reduceAdd, hd]; with_reducible exact rfl)); with_reducible (first | refine okk_some ?_ | (refine okk_ite ?_ ?_; (focus omega)) | (refine okk_ifn ?_ ?_; (focus omega))))
      | ((with_reducible apply arun_gyes); (focus exact rfl); (focus (simp only [go_sem, ↓reduceIte, Nat.reduceEqDiff, reduceCtorEq, Nat.reduceAdd, hd]; with_reducible exact rfl)); (focus first | assumption | exact rfl))
      | ((with_reducible apply arun_gundef); (focus exact rfl); (focus (simp only [go_sem, ↓reduceIte, Nat.reduceEqDiff, reduceCtorEq, Nat.reduceAdd, hd]; done)))
      | ((with_reducible apply arun_gno); (focus exact rfl); (focus (simp only [go_sem, ↓reduceIte, Nat.reduceEqDiff, reduceCtorEq, Nat.reduceAdd, hd]; with_reducible exact rfl)); (focus first | assumption | exact rfl))
      | ((with_reducible apply arun_guard); (focus exact rfl); (focus (simp only [go_sem, ↓reduceIte, Nat.reduceEqDiff, reduceCtorEq, Nat.reduceAdd, hd]; with_reducible exact rfl)); (focus intro hb); rotate_left; (focus intro hb); rotate_right))
    all_goals (simp only [go_sem, ↓reduceIte, Nat.reduceEqDiff, reduceCtorEq, Nat.reduceAdd]; refine hK1 _ ?_; clear hK1 K1)
    apply awp_cond
    (focus (simp only [go_sem, ↓reduceIte, Nat.reduceEqDiff, reduceCtorEq, Nat.reduceAdd]; exact rfl))
    all_goals intro hc
    ·
      refine awp_seq_k fun K1 hK1 => ?_
      refine awp_region (Θ := Θ) (Γ := Γ) [4, 5] ΘOK ΓOK rfl ?_
      repeat' (first
        | (with_reducible refine arun_nil ?_)
        | ((with_reducible apply arun_any); (focus exact rfl); (focus (simp (disch := first | assumption | (with_reducible exact okL_limbs _) | omega) only [go_sem, ↓reduceIte, Nat.reduceEqDiff, reduceCtorEq, Nat.reduceAdd]; with_reducible exact rfl)); with_reducible (first | refine okk_some ?_ | (refine okk_ite ?_ ?_; (focus omega)) | (refine okk_ifn ?_ ?_; (focus omega)))))
      all_goals (simp only [go_sem, ↓reduceIte, Nat.reduceEqDiff, reduceCtorEq, Nat.reduceAdd]; refine hK1 _ ?_; clear hK1 K1)
      refine awp_ret ?_
      have h1 : 1048576 < n ∨ n < -1048576 := .inl hb
      simp only [go_sem, ↓reduceIte, Nat.reduceEqDiff, reduceCtorEq, Nat.reduceAdd, Res, rShift, h1, lst_nil']
    · cases hc
  ·
    have hd : decide (n > 1048576) = false := by simpa using hb
    refine awp_seq_k fun K1 hK1 => ?_
    refine awp_region (Θ := Θ) (Γ := Γ) [0, 1, 12] ΘOK ΓOK rfl ?_
    repeat' (first
      | (with_reducible refine arun_nil ?_)
      | ((with_reducible apply arun_any); (focus exact rfl); (focus (simp (disch := first | assumption | (with_reducible exact okL_limbs _) | omega) only [go_sem, ↓reduceIte, Nat.reduceEqDiff, reduceCtorEq, Nat.reduceAdd, hd]; with_reducible exact rfl)); with_reducible (first | refine okk_some ?_ | (refine okk_ite ?_ ?_; (focus omega)) | (refine okk_ifn ?_ ?_; (focus omega))))
      | ((with_reducible apply arun_gyes); (focus exact rfl); (focus (simp only [go_sem, ↓reduceIte, Nat.reduceEqDiff, reduceCtorEq, Nat.reduceAdd, hd]; with_reducible exact rfl)); (focus first | assumption | exact rfl))
      | ((with_reducible apply arun_gundef); (focus exact rfl); (focus (simp only [go_sem, ↓reduceIte, Nat.reduceEqDiff, reduceCtorEq, Nat.reduceAdd, hd]; done)))
      | ((with_reducible apply arun_gno); (focus exact rfl); (focus (simp only [go_sem, ↓reduceIte, Nat.reduceEqDiff, reduceCtorEq, Nat.reduceAdd, hd]; with_reducible exact rfl)); (focus first | assumption | exact rfl))
      | ((with_reducible apply arun_guard); (focus exact rfl); (focus (simp only [go_sem, ↓reduceIte, Nat.reduceEqDiff, reduceCtorEq, Nat.reduceAdd, hd]; with_reducible exact rfl)); (focus intro hb); rotate_left; (focus intro hb); rotate_right))
    all_goals (simp only [go_sem, ↓reduceIte, Nat.reduceEqDiff, reduceCtorEq, Nat.reduceAdd]; refine hK1 _ ?_; clear hK1 K1)
    apply awp_cond
    (focus (simp only [go_sem, ↓reduceIte, Nat.reduceEqDiff, reduceCtorEq, Nat.reduceAdd]; exact rfl))
    all_goals intro hc
    ·
      have h1 : 1048576 < n ∨ n < -1048576 := .inr (by simpa using hc)
      refine awp_seq_k fun K1 hK1 => ?_
      refine awp_region (Θ := Θ) (Γ := Γ) [4, 5] ΘOK ΓOK rfl ?_
      repeat' (first
        | (with_reducible refine arun_nil ?_)
        | ((with_reducible apply arun_any); (focus exact rfl); (focus (simp (disch := first | assumption | (with_reducible exact okL_limbs _) | omega) only [go_sem, ↓reduceIte, Nat.reduceEqDiff, reduceCtorEq, Nat.reduceAdd]; with_reducible exact rfl)); with_reducible (first | refine okk_some ?_ | (refine okk_ite ?_ ?_; (focus omega)) | (refine okk_ifn ?_ ?_; (focus omega)))))
      all_goals (simp only [go_sem, ↓reduceIte, Nat.reduceEqDiff, reduceCtorEq, Nat.reduceAdd]; refine hK1 _ ?_; clear hK1 K1)
      refine awp_ret ?_
      simp only [go_sem, ↓reduceIte, Nat.reduceEqDiff, reduceCtorEq, Nat.reduceAdd, Res, rShift, h1, lst_nil']
    ·
      have h1 : ¬ n < -1048576 := by simpa using hc
      refine awp_skip ?_
      refine rest (by omega) (by omega) _ ?_ rfl
      first | (simp [agree_cons, agree_nil, slook_cons, vInt]; done) | (simp [agree_cons, agree_nil, slook_cons, vInt]; omega) | (simp [agree_cons, agree_nil, slook_cons, vInt]; grind)
end Shift
end Go.Proofs

namespace Go.Proofs
open Go.Abs Go.NatMath
set_option linter.unusedVariables false
set_option linter.unusedSimpArgs false

/-! ### the document's Shift -/
theorem nextbit {O : List Int} {i N bit : Nat} (hO : okL O) (hi : i / 32 < O.length) (hv : nv O = N % 2 ^ i) (hb : N / 2 ^ i % 2 = bit) :
    (0 ≤ O.getD (i / 32) 0 + (bit : Int) * 2 ^ (i % 32) ∧ O.getD (i / 32) 0 + (bit : Int) * 2 ^ (i % 32) < 4294967296) ∧ nv (O.set (i / 32) (O.getD (i / 32) 0 + (bit : Int) * 2 ^ (i % 32))) = N % 2 ^ (i + 1) := by
  have hbit : bit < 2 := by rw [← hb]; exact Nat.mod_lt _ (by decide)
  have hj : i % 32 < 32 := Nat.mod_lt _ (by decide)
  have hx := okL_get hO (i / 32)
  have hg := getD_nv hO (i / 32)
  have hlt : nv O < 2 ^ i := by rw [hv]; exact Nat.mod_lt _ (Nat.pow_pos (by decide))
  have ep : 2 ^ i = B ^ (i / 32) * 2 ^ (i % 32) := by rw [B_pow, ← Nat.pow_add]; congr 1; omega
  have h1 : nv O / B ^ (i / 32) < 2 ^ (i % 32) := Nat.div_lt_of_lt_mul (by rw [← ep]; exact hlt)
  have h2 : O.getD (i / 32) 0 < 2 ^ (i % 32) := by
    rw [hg, pow_cast]
    have := Nat.mod_le (nv O / B ^ (i / 32)) B
    omega
  have hp := pow_pos2 (i % 32)
  have hp2 := pow_le31 hj
  have h3 : 0 ≤ (bit : Int) * 2 ^ (i % 32) ∧ (bit : Int) * 2 ^ (i % 32) ≤ 2 ^ (i % 32) := by
    rcases (show bit = 0 ∨ bit = 1 by omega) with rfl | rfl
    · simp; omega
    · simp; omega
  have hbd : 0 ≤ O.getD (i / 32) 0 + (bit : Int) * 2 ^ (i % 32) ∧ O.getD (i / 32) 0 + (bit : Int) * 2 ^ (i % 32) < 4294967296 := by omega
  refine ⟨hbd, ?_⟩
  have hs := iv_set hO (i / 32) hbd.1 hbd.2 hi
  have e3 : W (i / 32) * (O.getD (i / 32) 0 + (bit : Int) * 2 ^ (i % 32) - O.getD (i / 32) 0) = ((2 ^ i * bit : Nat) : Int) := by
    rw [show O.getD (i / 32) 0 + (bit : Int) * 2 ^ (i % 32) - O.getD (i / 32) 0 = (bit : Int) * 2 ^ (i % 32) by omega, W_nat, pow_cast, ← Int.natCast_mul, ← Int.natCast_mul, ep, Nat.mul_comm bit, Nat.mul_assoc]
  rw [e3] at hs
  unfold iv at hs
  rw [Nat.mod_pow_succ, hb, ← hv]
  omega
namespace RShift
def Γ : FuncId → Abs.Spec
  | 26 => .pure spPlain
  | 30 => .pure spBits
  | 52 => .pure spBit
  | _ => .none
theorem ΓOK : ∀ f, SpecOK Try.prog f (Γ f) := by
  intro f
  unfold Γ
  split
  · exact ⟨⟨_, Try.func26, by decide +kernel, rfl⟩, RPlain.ok⟩
  · exact ⟨⟨_, Try.func30, by decide +kernel, rfl⟩, RBits.ok⟩
  · exact ⟨⟨_, Try.func52, by decide +kernel, rfl⟩, Bit.ok⟩
  · trivial
attribute [local go_sem] Γ
theorem ok : PureOK Try.prog 36 spShift := by
  refine pure_of_awp (n := 54) [4, 5] Try.func36 rfl rfl rfl ?_
  intro M0 w0 args r h
  obtain ⟨L, n, rfl, hL, hLl, hn, rfl⟩ := spShift_some h
  clear h
  refine ⟨by simp, ?_⟩
  refine awp_seq_k fun K0 hK0 => ?_
  refine awp_region (Θ := Θ) (Γ := Γ) [0, 1] ΘOK ΓOK rfl ?_
  repeat' (first
    | (with_reducible refine arun_nil ?_)
    | ((with_reducible apply arun_any); (focus exact rfl); (focus (simp (disch := first | assumption | (with_reducible exact okL_limbs _) | omega) only [go_sem, ↓reduceIte, Nat.reduceEqDiff, reduceCtorEq, Nat.reduceAdd]; with_reducible exact rfl)); with_reducible (first | refine okk_some ?_ | (refine okk_ite ?_ ?_; (focus omega)) | (refine okk_ifn ?_ ?_; (focus omega)))))
  all_goals (simp only [go_sem, ↓reduceIte, Nat.reduceEqDiff, reduceCtorEq, Nat.reduceAdd]; refine hK0 _ ?_; clear hK0 K0)
  refine awp_seq_k fun K0 hK0 => ?_
  have rest : -1048576 ≤ n → n ≤ 1048576 → ∀ σ : St, agree [(0, .lst (ints .u32 L)), (1, vInt .i64 n)] σ.t → σ.h = hlook [] → K0 σ := by
    intro hn1 hn2 σ hag hh
    refine hK0 σ ?_
    refine awp_forget _ hag ?_
    rw [hh]
    clear hag hh hK0 K0 hn
    have hA := okL_limbs (nv L)
    have hAl := limbs_length_nv hL
    have hAv := nv_limbs (nv L)
    refine awp_seq_k fun K0 hK0 => ?_
    refine awp_region (Θ := Θ) (Γ := Γ) [0, 1] ΘOK ΓOK rfl ?_
    repeat' (first
      | (with_reducible refine arun_nil ?_)
      | ((with_reducible apply arun_any); (focus exact rfl); (focus (simp (disch := first | assumption | (with_reducible exact okL_limbs _) | omega) only [go_sem, ↓reduceIte, Nat.reduceEqDiff, reduceCtorEq, Nat.reduceAdd]; with_reducible exact rfl)); with_reducible (first | refine okk_some ?_ | (refine okk_ite ?_ ?_; (focus omega)) | (refine okk_ifn ?_ ?_; (focus omega)))))
    all_goals (simp only [go_sem, ↓reduceIte, Nat.reduceEqDiff, reduceCtorEq, Nat.reduceAdd]; refine hK0 _ ?_; clear hK0 K0)
    generalize ha : nv L = a at *
    have hbl : bl a ≤ 32 * (limbs a).length := by
      have h1 := nv_lt hA
      rw [hAv, B_pow] at h1
      exact bl_le h1
    generalize limbs a = A at *
    -- what is wanted, and its digits
    obtain ⟨N, hN, hNb, hNt⟩ : ∃ N : Nat, rShift a n = .tup [.lst (ints .u32 (limbs N)), .val (.bool true)] ∧ (∀ i : Nat, N / 2 ^ i % 2 = if 0 ≤ (i : Int) - n then a / 2 ^ ((i : Int) - n).toNat % 2 else 0) ∧ N < 2 ^ ((bl a : Int) + n).toNat := by
      have h1 : ¬ (1048576 < n ∨ n < -1048576) := by omega
      have hlt := bl_lt a
      by_cases h2 : 0 ≤ n
      · obtain ⟨k, rfl⟩ := Int.eq_ofNat_of_zero_le h2
        refine ⟨a * 2 ^ k, by simp [rShift, h1], fun i => ?_, ?_⟩
        · by_cases hik : 0 ≤ (i : Int) - (k : Int)
          · rw [if_pos hik]
            have e : 2 ^ i = 2 ^ k * 2 ^ ((i : Int) - (k : Int)).toNat := by rw [← Nat.pow_add]; congr 1; omega
            rw [e, ← Nat.div_div_eq_div_mul, Nat.mul_div_cancel _ (Nat.pow_pos (by decide))]
          · rw [if_neg hik]
            have e : 2 ^ k = 2 ^ i * (2 * 2 ^ (k - i - 1)) := by rw [← Nat.pow_succ', ← Nat.pow_add]; congr 1; omega
            rw [e, Nat.mul_left_comm, Nat.mul_div_cancel_left _ (Nat.pow_pos (by decide)), Nat.mul_left_comm, Nat.mul_mod_right]
        · rw [show ((bl a : Int) + (k : Int)).toNat = bl a + k by omega, Nat.pow_add]
          exact (Nat.mul_lt_mul_right (Nat.pow_pos (by decide))).2 hlt
      · obtain ⟨k, rfl⟩ : ∃ k : Nat, n = -(k : Int) := ⟨(-n).toNat, by omega⟩
        have h3 : (- -(k : Int)).toNat = k := by omega
        refine ⟨a / 2 ^ k, by rw [rShift, if_neg h1, if_neg h2, h3], fun i => ?_, ?_⟩
        · rw [if_pos (by omega), show ((i : Int) - -(k : Int)).toNat = k + i by omega, Nat.div_div_eq_div_mul, Nat.pow_add]
        · rcases Nat.lt_or_ge k (bl a) with hk | hk
          · rw [show ((bl a : Int) + -(k : Int)).toNat = bl a - k by omega]
            refine Nat.div_lt_of_lt_mul ?_
            rw [← Nat.pow_add, show k + (bl a - k) = bl a by omega]
            exact hlt
          · have : a < 2 ^ k := Nat.lt_of_lt_of_le hlt (Nat.pow_le_pow_right (by decide) hk)
            rw [Nat.div_eq_of_lt this]
            exact Nat.pow_pos (by decide)
    rw [hN]
    refine awp_seq_k fun K0 hK0 => ?_
    refine awp_region (Θ := Θ) (Γ := Γ) [0, 1, 6] ΘOK ΓOK rfl ?_
    repeat' (first
      | (with_reducible refine arun_nil ?_)
      | ((with_reducible apply arun_any); (focus exact rfl); (focus (simp (disch := first | assumption | (with_reducible exact okL_limbs _) | omega) only [go_sem, ↓reduceIte, Nat.reduceEqDiff, reduceCtorEq, Nat.reduceAdd]; with_reducible exact rfl)); with_reducible (first | refine okk_some ?_ | (refine okk_ite ?_ ?_; (focus omega)) | (refine okk_ifn ?_ ?_; (focus omega)))))
    all_goals (simp only [go_sem, ↓reduceIte, Nat.reduceEqDiff, reduceCtorEq, Nat.reduceAdd]; refine hK0 _ ?_; clear hK0 K0)
    refine awp_own 6 53 48 1 (by decide) rfl rfl ?_
    simp only [go_sem, ↓reduceIte, Nat.reduceEqDiff, reduceCtorEq, Nat.reduceAdd]
    refine awp_seq_k fun K0 hK0 => ?_
    refine awp_seq_k fun K1 hK1 => ?_
    refine awp_region (Θ := Θ) (Γ := Γ) [0, 1, 6, 7] ΘOK ΓOK rfl ?_
    repeat' (first
      | (with_reducible refine arun_nil ?_)
      | ((with_reducible apply arun_any); (focus exact rfl); (focus (simp (disch := first | assumption | (with_reducible exact okL_limbs _) | omega) only [go_sem, ↓reduceIte, Nat.reduceEqDiff, reduceCtorEq, Nat.reduceAdd]; with_reducible exact rfl)); with_reducible (first | refine okk_some ?_ | (refine okk_ite ?_ ?_; (focus omega)) | (refine okk_ifn ?_ ?_; (focus omega)))))
    all_goals (simp only [go_sem, ↓reduceIte, Nat.reduceEqDiff, reduceCtorEq, Nat.reduceAdd]; refine hK1 _ ?_; clear hK1 K1)
    refine awp_block ?_   -- 0
    refine awp_loop_st (ι := Nat × List Int) (fun p => [(0, .lst (ints .u32 A)), (1, vInt .i64 n), (6, .own 53), (7, vInt .i64 p.1)]) (fun p => [(53, ⟨48, 1, ints .u32 p.2, none⟩)]) (fun p => ((bl a : Int) + n).toNat - p.1)
      (fun p => p.1 ≤ ((bl a : Int) + n).toNat ∧ okL p.2 ∧ p.2.length = (p.1 + 31) / 32 ∧ nv p.2 = N % 2 ^ p.1) (0, [])
      ⟨by simp, okL_nil, rfl, by simp [nv, Nat.mod_one]⟩ (by simp [agree_cons, agree_nil, slook_cons, vInt]) (by simp [ints]) ?_
    rintro ⟨i, O⟩ ⟨h1, h2, h3, h4⟩
    simp only at h1 h2 h3 h4 ⊢
    refine awp_seq_k fun K1 hK1 => ?_
    refine awp_seq_k fun K2 hK2 => ?_
    refine awp_region (Θ := Θ) (Γ := Γ) [0, 1, 6, 7, 21] ΘOK ΓOK rfl ?_
    repeat' (first
      | (with_reducible refine arun_nil ?_)
      | ((with_reducible apply arun_any); (focus exact rfl); (focus (simp (disch := first | assumption | (with_reducible exact okL_limbs _) | omega) only [go_sem, ↓reduceIte, Nat.reduceEqDiff, reduceCtorEq, Nat.reduceAdd, hAv]; with_reducible exact rfl)); with_reducible (first | refine okk_some ?_ | (refine okk_ite ?_ ?_; (focus omega)) | (refine okk_ifn ?_ ?_; (focus omega)))))
    all_goals (simp only [go_sem, ↓reduceIte, Nat.reduceEqDiff, reduceCtorEq, Nat.reduceAdd]; refine hK2 _ ?_; clear hK2 K2)
    apply awp_cond
    (focus (simp only [go_sem, ↓reduceIte, Nat.reduceEqDiff, reduceCtorEq, Nat.reduceAdd]; exact rfl))
    all_goals intro hc
    ·
      have hi : (i : Int) < (bl a : Int) + n := by simpa using hc
      clear hc
      refine awp_skip ?_
      refine hK1 _ ?_; clear hK1 K1
      have hbit := hNb i
      refine awp_seq_k fun K1 hK1 => ?_
      have fin : ∀ (O2 : List Int) (σ : St), okL O2 → O2.length = (i + 1 + 31) / 32 → nv O2 = N % 2 ^ (i + 1) → agree [(0, .lst (ints .u32 A)), (1, vInt .i64 n), (6, .own 53), (7, vInt .i64 i)] σ.t → σ.h = hlook [(53, ⟨48, 1, ints .u32 O2, none⟩)] → K1 σ := by
        intro O2 σ y1 y2 y3 hag hh
        refine hK1 σ ?_
        refine awp_forget _ hag ?_
        rw [hh]
        refine awp_region (Θ := Θ) (Γ := Γ) [0, 1, 6, 7] ΘOK ΓOK rfl ?_
        repeat' (first
          | (with_reducible refine arun_nil ?_)
          | ((with_reducible apply arun_any); (focus exact rfl); (focus (simp (disch := first | assumption | (with_reducible exact okL_limbs _) | omega) only [go_sem, ↓reduceIte, Nat.reduceEqDiff, reduceCtorEq, Nat.reduceAdd]; with_reducible exact rfl)); with_reducible (first | refine okk_some ?_ | (refine okk_ite ?_ ?_; (focus omega)) | (refine okk_ifn ?_ ?_; (focus omega)))))
        all_goals (simp only [go_sem, ↓reduceIte, Nat.reduceEqDiff, reduceCtorEq, Nat.reduceAdd])
        refine ⟨(i + 1, O2), ⟨by simp only; omega, y1, y2, y3⟩, ?_, rfl, by simp only; omega⟩
        ·
          first | (simp [agree_cons, agree_nil, slook_cons, vInt]; done) | (simp [agree_cons, agree_nil, slook_cons, vInt]; omega) | (simp [agree_cons, agree_nil, slook_cons, vInt]; grind)
      refine awp_block ?_   -- 1
      refine awp_seq_k fun K2 hK2 => ?_
      have mid : ∀ (O2 : List Int) (σ : St), okL O2 → O2.length = (i + 1 + 31) / 32 → nv O2 = N % 2 ^ i → agree [(0, .lst (ints .u32 A)), (1, vInt .i64 n), (6, .own 53), (7, vInt .i64 i)] σ.t → σ.h = hlook [(53, ⟨48, 1, ints .u32 O2, none⟩)] → K2 σ := by
        intro O2 σ y1 y2 y3 hag hh
        refine hK2 σ ?_
        refine awp_forget _ hag ?_
        rw [hh]
        clear hag hh σ h2 h3 h4
        refine awp_seq_k fun K3 hK3 => ?_
        refine awp_region (Θ := Θ) (Γ := Γ) [0, 1, 6, 7, 33] ΘOK ΓOK rfl ?_
        repeat' (first
          | (with_reducible refine arun_nil ?_)
          | ((with_reducible apply arun_any); (focus exact rfl); (focus (simp (disch := first | assumption | (with_reducible exact okL_limbs _) | omega) only [go_sem, ↓reduceIte, Nat.reduceEqDiff, reduceCtorEq, Nat.reduceAdd]; with_reducible exact rfl)); with_reducible (first | refine okk_some ?_ | (refine okk_ite ?_ ?_; (focus omega)) | (refine okk_ifn ?_ ?_; (focus omega)))))
        all_goals (simp only [go_sem, ↓reduceIte, Nat.reduceEqDiff, reduceCtorEq, Nat.reduceAdd]; refine hK3 _ ?_; clear hK3 K3)
        apply awp_cond
        (focus (simp only [go_sem, ↓reduceIte, Nat.reduceEqDiff, reduceCtorEq, Nat.reduceAdd]; exact rfl))
        all_goals intro hc
        ·
          have hge : 0 ≤ (i : Int) - n := by simpa using hc
          clear hc
          rw [if_pos hge] at hbit
          obtain ⟨z1, z2⟩ := nextbit y1 (by omega) y3 hbit
          have hbl2 : a / 2 ^ ((i : Int) - n).toNat % 2 < 2 := Nat.mod_lt _ (by decide)
          generalize hbe : a / 2 ^ ((i : Int) - n).toNat % 2 = bit at *
          have e1 : ((i : Int) / 32).toNat = i / 32 := by omega
          have e2 : ((i : Int) % 32).toNat = i % 32 := by omega
          have e3 : min (i % 32) 32 = i % 32 := by omega
          have hj : i % 32 < 32 := Nat.mod_lt _ (by decide)
          have e4 : ((bit : Int) * 2 ^ (i % 32)) % 4294967296 = (bit : Int) * 2 ^ (i % 32) := by
            have hp := pow_pos2 (i % 32)
            have hp2 := pow_le31 hj
            rcases (show bit = 0 ∨ bit = 1 by omega) with hb0 | hb0
            · rw [hb0]; simp
            · rw [hb0, show ((1 : Nat) : Int) = 1 from rfl, Int.one_mul]; exact Int.emod_eq_of_lt (by omega) (by omega)
          have e5 : (O2.getD (i / 32) 0 + (bit : Int) * 2 ^ (i % 32)) % 4294967296 = O2.getD (i / 32) 0 + (bit : Int) * 2 ^ (i % 32) := Int.emod_eq_of_lt z1.1 z1.2
          have hlt : i / 32 < O2.length := by omega
          generalize hve : O2.getD (i / 32) 0 + (bit : Int) * 2 ^ (i % 32) = v at *
          generalize hwe : (bit : Int) * 2 ^ (i % 32) = w at *
          clear hNb hNt hN hbit hbl2
          refine awp_draw (Θ := Θ) (Γ := Γ) [0, 1, 6, 7] ΘOK ΓOK mixed rfl (by decide +kernel) ?_
          repeat' (first
            | (with_reducible refine arunD_nil ?_)
            | ((with_reducible apply arunD_step); (focus (simp (disch := first | assumption | (with_reducible exact okL_limbs _) | omega) only [go_sem, ↓reduceIte, Nat.reduceEqDiff, reduceCtorEq, Nat.reduceAdd, hAv, hbe, e1, e2, e3, hwe, e4, hve, e5]; with_reducible exact rfl)))
            | ((with_reducible apply arunD_if); (focus (simp (disch := first | assumption | (with_reducible exact okL_limbs _) | omega) only [go_sem, ↓reduceIte, Nat.reduceEqDiff, reduceCtorEq, Nat.reduceAdd, hAv, hbe, e1, e2, e3, hwe, e4, hve, e5]; with_reducible exact rfl)); (focus omega))
            | ((with_reducible apply arunD_ifn); (focus (simp (disch := first | assumption | (with_reducible exact okL_limbs _) | omega) only [go_sem, ↓reduceIte, Nat.reduceEqDiff, reduceCtorEq, Nat.reduceAdd, hAv, hbe, e1, e2, e3, hwe, e4, hve, e5]; with_reducible exact rfl)); (focus omega)))
          all_goals (simp only [go_sem, ↓reduceIte, Nat.reduceEqDiff, reduceCtorEq, Nat.reduceAdd])
          refine fin (O2.set (i / 32) v) _ (okL_set y1 _ z1) (by simpa using y2) z2 ?_ rfl
          first | (simp [agree_cons, agree_nil, slook_cons, vInt]; done) | (simp [agree_cons, agree_nil, slook_cons, vInt]; omega) | (simp [agree_cons, agree_nil, slook_cons, vInt]; grind)
        ·
          have hlt : ¬ 0 ≤ (i : Int) - n := by simp at hc; omega
          rw [if_neg hlt] at hbit
          refine awp_skip ?_
          refine fin O2 _ y1 y2 (by rw [Nat.mod_pow_succ, hbit, Nat.mul_zero, Nat.add_zero, y3]) ?_ rfl
          first | (simp [agree_cons, agree_nil, slook_cons, vInt]; done) | (simp [agree_cons, agree_nil, slook_cons, vInt]; omega) | (simp [agree_cons, agree_nil, slook_cons, vInt]; grind)
      refine awp_seq_k fun K3 hK3 => ?_
      refine awp_region (Θ := Θ) (Γ := Γ) [0, 1, 6, 7, 26] ΘOK ΓOK rfl ?_
      repeat' (first
        | (with_reducible refine arun_nil ?_)
        | ((with_reducible apply arun_any); (focus exact rfl); (focus (simp (disch := first | assumption | (with_reducible exact okL_limbs _) | omega) only [go_sem, ↓reduceIte, Nat.reduceEqDiff, reduceCtorEq, Nat.reduceAdd]; with_reducible exact rfl)); with_reducible (first | refine okk_some ?_ | (refine okk_ite ?_ ?_; (focus omega)) | (refine okk_ifn ?_ ?_; (focus omega)))))
      all_goals (simp only [go_sem, ↓reduceIte, Nat.reduceEqDiff, reduceCtorEq, Nat.reduceAdd]; refine hK3 _ ?_; clear hK3 K3)
      apply awp_cond
      (focus (simp only [go_sem, ↓reduceIte, Nat.reduceEqDiff, reduceCtorEq, Nat.reduceAdd]; exact rfl))
      all_goals intro hc
      ·
        have h0 : i % 32 = 0 := by simp at hc; omega
        have hOl : O.length ≤ 35184372088800 := by omega
        refine awp_region (Θ := Θ) (Γ := Γ) [0, 1, 6, 7] ΘOK ΓOK rfl ?_
        repeat' (first
          | (with_reducible refine arun_nil ?_)
          | ((with_reducible apply arun_any); (focus exact rfl); (focus (simp (disch := first | assumption | (with_reducible exact okL_limbs _) | omega) only [go_sem, ↓reduceIte, Nat.reduceEqDiff, reduceCtorEq, Nat.reduceAdd]; with_reducible exact rfl)); with_reducible (first | refine okk_some ?_ | (refine okk_ite ?_ ?_; (focus omega)) | (refine okk_ifn ?_ ?_; (focus omega)))))
        all_goals (simp only [go_sem, ↓reduceIte, Nat.reduceEqDiff, reduceCtorEq, Nat.reduceAdd])
        refine mid (O ++ [0]) _ (okL_append.2 ⟨h2, okL_cons.2 ⟨by omega, okL_nil⟩⟩) (by simp; omega) ?_ ?_ rfl
        ·
          rw [nv_append, h4]
          simp [nv]
        ·
          first | (simp [agree_cons, agree_nil, slook_cons, vInt]; done) | (simp [agree_cons, agree_nil, slook_cons, vInt]; omega) | (simp [agree_cons, agree_nil, slook_cons, vInt]; grind)
      ·
        have h0 : i % 32 ≠ 0 := by
          intro e
          have : (i : Int) % 32 = 0 := by omega
          rw [this] at hc
          simp at hc
        refine awp_skip ?_
        refine mid O _ h2 (by omega) h4 ?_ rfl
        first | (simp [agree_cons, agree_nil, slook_cons, vInt]; done) | (simp [agree_cons, agree_nil, slook_cons, vInt]; omega) | (simp [agree_cons, agree_nil, slook_cons, vInt]; grind)
    ·
      have hi : i = ((bl a : Int) + n).toNat := by simp at hc; omega
      subst hi
      rw [Nat.mod_eq_of_lt hNt] at h4
      refine awp_exit ?_   -- exit 0
      simp only [Nat.reduceEqDiff, ↓reduceIte]
      refine hK0 _ ?_; clear hK0 K0 hK1 K1
      refine awp_seq_k fun K0 hK0 => ?_
      refine awp_region (Θ := Θ) (Γ := Γ) [4, 5] ΘOK ΓOK rfl ?_
      repeat' (first
        | (with_reducible refine arun_nil ?_)
        | ((with_reducible apply arun_any); (focus exact rfl); (focus (simp (disch := first | assumption | (with_reducible exact okL_limbs _) | omega) only [go_sem, ↓reduceIte, Nat.reduceEqDiff, reduceCtorEq, Nat.reduceAdd]; with_reducible exact rfl)); with_reducible (first | refine okk_some ?_ | (refine okk_ite ?_ ?_; (focus omega)) | (refine okk_ifn ?_ ?_; (focus omega)))))
      all_goals (simp only [go_sem, ↓reduceIte, Nat.reduceEqDiff, reduceCtorEq, Nat.reduceAdd]; refine hK0 _ ?_; clear hK0 K0)
      refine awp_ret ?_
      simp only [go_sem, ↓reduceIte, Nat.reduceEqDiff, reduceCtorEq, Nat.reduceAdd, Res, h4]
  by_cases hb : n > 1048576
  ·
    have hd : decide (n > 1048576) = true := by simpa using hb
    refine awp_seq_k fun K1 hK1 => ?_
    refine awp_region (Θ := Θ) (Γ := Γ) [0, 1, 13] ΘOK ΓOK rfl ?_
    repeat' (first
      | (with_reducible refine arun_nil ?_)
      | ((with_reducible apply arun_any); (focus exact rfl); (focus (simp (disch := first | assumption | (with_reducible exact okL_limbs _) | omega) only [go_sem, ↓reduceIte, Nat.reduceEqDiff, reduceCtorEq, Nat.reduceAdd, hd]; with_reducible exact rfl)); with_reducible (first | refine okk_some ?_ | (refine okk_ite ?_ ?_; (focus omega)) | (refine okk_ifn ?_ ?_; (focus omega))))
      | ((with_reducible apply arun_gyes); (focus exact rfl); (focus (simp only [go_sem, ↓reduceIte, Nat.reduceEqDiff, reduceCtorEq, Nat.reduceAdd, hd]; with_reducible exact rfl)); (focus first | assumption | exact rfl))
      | ((with_reducible apply arun_gundef); (focus exact rfl); (focus (simp only [go_sem, ↓reduceIte, Nat.reduceEqDiff, reduceCtorEq, Nat.reduceAdd, hd]; done)))
      | ((with_reducible apply arun_gno); (focus exact rfl); (focus (simp only [go_sem, ↓reduceIte, Nat.reduceEqDiff, reduceCtorEq, Nat.reduceAdd, hd]; with_reducible exact rfl)); (focus first | assumption | exact rfl))
      | ((with_reducible apply arun_guard); (focus exact rfl); (focus (simp only [go_sem, ↓reduceIte, Nat.reduceEqDiff, reduceCtorEq, Nat.reduceAdd, hd]; with_reducible exact rfl)); (focus intro hb); rotate_left; (focus intro hb); rotate_right))
    all_goals (simp only [go_sem, ↓reduceIte, Nat.reduceEqDiff, reduceCtorEq, Nat.reduceAdd]; refine hK1 _ ?_; clear hK1 K1)
    apply awp_cond
    (focus (simp only [go_sem, ↓reduceIte, Nat.reduceEqDiff, reduceCtorEq, Nat.reduceAdd]; exact rfl))
    all_goals intro hc
    ·
      refine awp_seq_k fun K1 hK1 => ?_
      refine awp_region (Θ := Θ) (Γ := Γ) [4, 5] ΘOK ΓOK rfl ?_
      repeat' (first
        | (with_reducible refine arun_nil ?_)
        | ((with_reducible apply arun_any); (focus exact rfl); (focus (simp (disch := first | assumption | (with_reducible exact okL_limbs _) | omega) only [go_sem, ↓reduceIte, Nat.reduceEqDiff, reduceCtorEq, Nat.reduceAdd]; with_reducible exact rfl)); with_reducible (first | refine okk_some ?_ | (refine okk_ite ?_ ?_; (focus omega)) | (refine okk_ifn ?_ ?_; (focus omega)))))
      all_goals (simp only [go_sem, ↓reduceIte, Nat.reduceEqDiff, reduceCtorEq, Nat.reduceAdd]; refine hK1 _ ?_; clear hK1 K1)
      refine awp_ret ?_
      have h1 : 1048576 < n ∨ n < -1048576 := .inl hb
      simp only [go_sem, ↓reduceIte, Nat.reduceEqDiff, reduceCtorEq, Nat.reduceAdd, Res, rShift, h1, lst_nil']
    · cases hc
  ·
    have hd : decide (n > 1048576) = false := by simpa using hb
    refine awp_seq_k fun K1 hK1 => ?_
    refine awp_region (Θ := Θ) (Γ := Γ) [0, 1, 13] ΘOK ΓOK rfl ?_
    repeat' (first
      | (with_reducible refine arun_nil ?_)
      | ((with_reducible apply arun_any); (focus exact rfl); (focus (simp (disch := first | assumption | (with_reducible exact okL_limbs _) | omega) only [go_sem, ↓reduceIte, Nat.reduceEqDiff, reduceCtorEq, Nat.reduceAdd, hd]; with_reducible exact rfl)); with_reducible (first | refine okk_some ?_ | (refine okk_ite ?_ ?_; (focus omega)) | (refine okk_ifn ?_ ?_; (focus omega))))
      | ((with_reducible apply arun_gyes); (focus exact rfl); (focus (simp only [go_sem, ↓reduceIte, Nat.reduceEqDiff, reduceCtorEq, Nat.reduceAdd, hd]; with_reducible exact rfl)); (focus first | assumption | exact rfl))
      | ((with_reducible apply arun_gundef); (focus exact rfl); (focus (simp only [go_sem, ↓reduceIte, Nat.reduceEqDiff, reduceCtorEq, Nat.reduceAdd, hd]; done)))
      | ((with_reducible apply arun_gno); (focus exact rfl); (focus (simp only [go_sem, ↓reduceIte, Nat.reduceEqDiff, reduceCtorEq, Nat.reduceAdd, hd]; with_reducible exact rfl)); (focus first | assumption | exact rfl))
      | ((with_reducible apply arun_guard); (focus exact rfl); (focus (simp only [go_sem, ↓reduceIte, Nat.reduceEqDiff, reduceCtorEq, Nat.reduceAdd, hd]; with_reducible exact rfl)); (focus intro hb); rotate_left; (focus intro hb); rotate_right))
    all_goals (simp only [go_sem, ↓reduceIte, Nat.reduceEqDiff, reduceCtorEq, Nat.reduceAdd]; refine hK1 _ ?_; clear hK1 K1)
    apply awp_cond
    (focus (simp only [go_sem, ↓reduceIte, Nat.reduceEqDiff, reduceCtorEq, Nat.reduceAdd]; exact rfl))
    all_goals intro hc
    ·
      have h1 : 1048576 < n ∨ n < -1048576 := .inr (by simpa using hc)
      refine awp_seq_k fun K1 hK1 => ?_
      refine awp_region (Θ := Θ) (Γ := Γ) [4, 5] ΘOK ΓOK rfl ?_
      repeat' (first
        | (with_reducible refine arun_nil ?_)
        | ((with_reducible apply arun_any); (focus exact rfl); (focus (simp (disch := first | assumption | (with_reducible exact okL_limbs _) | omega) only [go_sem, ↓reduceIte, Nat.reduceEqDiff, reduceCtorEq, Nat.reduceAdd]; with_reducible exact rfl)); with_reducible (first | refine okk_some ?_ | (refine okk_ite ?_ ?_; (focus omega)) | (refine okk_ifn ?_ ?_; (focus omega)))))
      all_goals (simp only [go_sem, ↓reduceIte, Nat.reduceEqDiff, reduceCtorEq, Nat.reduceAdd]; refine hK1 _ ?_; clear hK1 K1)
      refine awp_ret ?_
      simp only [go_sem, ↓reduceIte, Nat.reduceEqDiff, reduceCtorEq, Nat.reduceAdd, Res, rShift, h1, lst_nil']
    ·
      have h1 : ¬ n < -1048576 := by simpa using hc
      refine awp_skip ?_
      refine rest (by omega) (by omega) _ ?_ rfl
      first | (simp [agree_cons, agree_nil, slook_cons, vInt]; done) | (simp [agree_cons, agree_nil, slook_cons, vInt]; omega) | (simp [agree_cons, agree_nil, slook_cons, vInt]; grind)
end RShift
end Go.Proofs

namespace Go.Proofs
open Go.Abs Go.NatMath
set_option linter.unusedVariables false
set_option linter.unusedSimpArgs false
set_option exponentiation.threshold 100000

/-! ### NatShifts -/
def spTrueLI : List AV → Option AV
  | [x, .val (.int .i64 n)] => (decK 100 x).bind fun _ => if -9223372036854775808 ≤ n ∧ n ≤ 9223372036854775807 then some (.val (.bool true)) else none
  | _ => none
attribute [go_sem] spTrueLI
theorem spTrueLI_some {args : List AV} {r : AV} (h : spTrueLI args = some r) : ∃ (L : List Int) (n : Int), args = [.lst (ints .u32 L), .val (.int .i64 n)] ∧ okL L ∧ L.length + 100 ≤ 35184372088831 ∧ (-9223372036854775808 ≤ n ∧ n ≤ 9223372036854775807) ∧ r = .val (.bool true) := by
  unfold spTrueLI at h
  split at h
  · obtain ⟨L, h1, h2⟩ := Option.bind_eq_some_iff.1 h
    obtain ⟨rfl, g2, g3⟩ := decK_some h1
    split at h2
    · rename_i hc
      cases h2
      exact ⟨L, _, rfl, g2, g3, hc, rfl⟩
    · cases h2
  · cases h
theorem rShift_ok {a c : Nat} {n : Int} (ha : a < B ^ c) (h : n ≤ 2000 ∨ 1048576 < n) : ∃ X b, rShift a n = .tup [.lst (ints .u32 X), .val (.bool b)] ∧ okL X ∧ X.length ≤ c + 63 := by
  unfold rShift
  by_cases h1 : 1048576 < n ∨ n < -1048576
  · rw [if_pos h1]; exact ⟨[], false, rfl, okL_nil, by simp⟩
  · rw [if_neg h1]
    refine ⟨_, true, rfl, okL_limbs _, ?_⟩
    by_cases h2 : 0 ≤ n
    · rw [if_pos h2]
      refine limbs_length_le ?_
      rw [Nat.pow_add]
      refine Nat.mul_lt_mul_of_lt_of_le ha ?_ (Nat.pow_pos B_pos)
      rw [B_pow]
      exact Nat.pow_le_pow_right (by decide) (by omega)
    · rw [if_neg h2]
      exact Nat.le_trans (limbs_length_le (Nat.lt_of_le_of_lt (Nat.div_le_self _ _) ha)) (by omega)
namespace NatShifts
def Γ : FuncId → Abs.Spec
  | 18 => .pure spCut
  | 21 => .pure spAwake
  | 22 => .pure spSame
  | 35 => .pure spShift
  | 36 => .pure spShift
  | _ => .none
theorem ΓOK : ∀ f, SpecOK Try.prog f (Γ f) := by
  intro f
  unfold Γ
  split
  · exact ⟨⟨_, Try.func18, by decide +kernel, rfl⟩, Cut.ok⟩
  · exact ⟨⟨_, Try.func21, by decide +kernel, rfl⟩, Awake.ok⟩
  · exact ⟨⟨_, Try.func22, by decide +kernel, rfl⟩, Same22.ok⟩
  · exact ⟨⟨_, Try.func35, by decide +kernel, rfl⟩, Shift.ok⟩
  · exact ⟨⟨_, Try.func36, by decide +kernel, rfl⟩, RShift.ok⟩
  · trivial
attribute [local go_sem] Γ
theorem ok : PureOK Try.prog 8 spTrueLI := by
  refine pure_of_awp (n := 42) [4] Try.func8 rfl rfl rfl ?_
  intro M0 w0 args r h
  obtain ⟨L, n, rfl, hL, hLl, hn, rfl⟩ := spTrueLI_some h
  clear h
  refine ⟨by simp, ?_⟩
  have e20 : (20 : Int).toNat = 20 := rfl
  have hA := okL_take 20 hL
  have hAl : (L.take 20).length ≤ 20 := by simp; omega
  refine awp_seq_k fun K0 hK0 => ?_
  refine awp_region (Θ := Θ) (Γ := Γ) [0, 1] ΘOK ΓOK rfl ?_
  repeat' (first
    | (with_reducible refine arun_nil ?_)
    | ((with_reducible apply arun_any); (focus exact rfl); (focus (simp (disch := first | assumption | (with_reducible exact okL_limbs _) | omega) only [go_sem, ↓reduceIte, Nat.reduceEqDiff, reduceCtorEq, Nat.reduceAdd]; with_reducible exact rfl)); with_reducible (first | refine okk_some ?_ | (refine okk_ite ?_ ?_; (focus omega)) | (refine okk_ifn ?_ ?_; (focus omega)))))
  all_goals (simp only [go_sem, ↓reduceIte, Nat.reduceEqDiff, reduceCtorEq, Nat.reduceAdd]; refine hK0 _ ?_; clear hK0 K0)
  refine awp_seq_k fun K0 hK0 => ?_
  refine awp_region (Θ := Θ) (Γ := Γ) [0, 1] ΘOK ΓOK rfl ?_
  repeat' (first
    | (with_reducible refine arun_nil ?_)
    | ((with_reducible apply arun_any); (focus exact rfl); (focus (simp (disch := first | assumption | (with_reducible exact okL_limbs _) | omega) only [go_sem, ↓reduceIte, Nat.reduceEqDiff, reduceCtorEq, Nat.reduceAdd, e20]; with_reducible exact rfl)); with_reducible (first | refine okk_some ?_ | (refine okk_ite ?_ ?_; (focus omega)) | (refine okk_ifn ?_ ?_; (focus omega)))))
  all_goals (simp only [go_sem, ↓reduceIte, Nat.reduceEqDiff, reduceCtorEq, Nat.reduceAdd]; refine hK0 _ ?_; clear hK0 K0)
  generalize L.take 20 = A at *
  have eA := Nat.lt_of_lt_of_le (nv_lt hA) (Nat.pow_le_pow_right B_pos hAl)
  refine awp_seq_k fun K0 hK0 => ?_
  have main : ∀ (m : Int) (σ : St), (-9223372036854775808 ≤ m ∧ m ≤ 9223372036854775807) → (m ≤ 2000 ∨ 1048576 < m) → agree [(0, .lst (ints .u32 A)), (1, vInt .i64 m)] σ.t → σ.h = hlook [] → K0 σ := by
    intro m σ hm hm2 hag hh
    refine hK0 σ ?_
    refine awp_forget _ hag ?_
    rw [hh]
    obtain ⟨X, b, hX, hXo, hXl⟩ := rShift_ok eA hm2
    refine awp_seq_k fun K0 hK0 => ?_
    refine awp_region (Θ := Θ) (Γ := Γ) [0, 1, 5, 6] ΘOK ΓOK rfl ?_
    repeat' (first
      | (with_reducible refine arun_nil ?_)
      | ((with_reducible apply arun_any); (focus exact rfl); (focus (simp (disch := first | assumption | (with_reducible exact okL_limbs _) | omega) only [go_sem, ↓reduceIte, Nat.reduceEqDiff, reduceCtorEq, Nat.reduceAdd, hX]; with_reducible exact rfl)); with_reducible (first | refine okk_some ?_ | (refine okk_ite ?_ ?_; (focus omega)) | (refine okk_ifn ?_ ?_; (focus omega)))))
    all_goals (simp only [go_sem, ↓reduceIte, Nat.reduceEqDiff, reduceCtorEq, Nat.reduceAdd]; refine hK0 _ ?_; clear hK0 K0)
    refine awp_seq_k fun K0 hK0 => ?_
    refine awp_region (Θ := Θ) (Γ := Γ) [5, 6, 7, 8] ΘOK ΓOK rfl ?_
    repeat' (first
      | (with_reducible refine arun_nil ?_)
      | ((with_reducible apply arun_any); (focus exact rfl); (focus (simp (disch := first | assumption | (with_reducible exact okL_limbs _) | omega) only [go_sem, ↓reduceIte, Nat.reduceEqDiff, reduceCtorEq, Nat.reduceAdd, hX]; with_reducible exact rfl)); with_reducible (first | refine okk_some ?_ | (refine okk_ite ?_ ?_; (focus omega)) | (refine okk_ifn ?_ ?_; (focus omega)))))
    all_goals (simp only [go_sem, ↓reduceIte, Nat.reduceEqDiff, reduceCtorEq, Nat.reduceAdd]; refine hK0 _ ?_; clear hK0 K0)
    refine awp_seq_k fun K0 hK0 => ?_
    refine awp_region (Θ := Θ) (Γ := Γ) [4] ΘOK ΓOK rfl ?_
    repeat' (first
      | (with_reducible refine arun_nil ?_)
      | ((with_reducible apply arun_any); (focus exact rfl); (focus (simp (disch := first | assumption | (with_reducible exact okL_limbs _) | omega) only [go_sem, ↓reduceIte, Nat.reduceEqDiff, reduceCtorEq, Nat.reduceAdd, beq_self_eq_true]; with_reducible exact rfl)); with_reducible (first | refine okk_some ?_ | (refine okk_ite ?_ ?_; (focus omega)) | (refine okk_ifn ?_ ?_; (focus omega))))
      | ((with_reducible apply arun_gyes); (focus exact rfl); (focus (simp only [go_sem, ↓reduceIte, Nat.reduceEqDiff, reduceCtorEq, Nat.reduceAdd, beq_self_eq_true]; with_reducible exact rfl)); (focus first | assumption | exact rfl))
      | ((with_reducible apply arun_gundef); (focus exact rfl); (focus (simp only [go_sem, ↓reduceIte, Nat.reduceEqDiff, reduceCtorEq, Nat.reduceAdd, beq_self_eq_true]; done)))
      | ((with_reducible apply arun_gno); (focus exact rfl); (focus (simp only [go_sem, ↓reduceIte, Nat.reduceEqDiff, reduceCtorEq, Nat.reduceAdd, beq_self_eq_true]; with_reducible exact rfl)); (focus first | assumption | exact rfl))
      | ((with_reducible apply arun_guard); (focus exact rfl); (focus (simp only [go_sem, ↓reduceIte, Nat.reduceEqDiff, reduceCtorEq, Nat.reduceAdd, beq_self_eq_true]; with_reducible exact rfl)); (focus intro hb); rotate_left; (focus intro hb); rotate_right))
    all_goals (simp only [go_sem, ↓reduceIte, Nat.reduceEqDiff, reduceCtorEq, Nat.reduceAdd]; refine hK0 _ ?_; clear hK0 K0)
    refine awp_ret ?_
    simp only [go_sem, ↓reduceIte, Nat.reduceEqDiff, reduceCtorEq, Nat.reduceAdd, Res]
  by_cases h2 : n > 2000
  ·
    have hd : decide (n > 2000) = true := by simpa using h2
    refine awp_seq_k fun K1 hK1 => ?_
    refine awp_region (Θ := Θ) (Γ := Γ) [0, 1, 16] ΘOK ΓOK rfl ?_
    repeat' (first
      | (with_reducible refine arun_nil ?_)
      | ((with_reducible apply arun_any); (focus exact rfl); (focus (simp (disch := first | assumption | (with_reducible exact okL_limbs _) | omega) only [go_sem, ↓reduceIte, Nat.reduceEqDiff, reduceCtorEq, Nat.reduceAdd, hd]; with_reducible exact rfl)); with_reducible (first | refine okk_some ?_ | (refine okk_ite ?_ ?_; (focus omega)) | (refine okk_ifn ?_ ?_; (focus omega))))
      | ((with_reducible apply arun_gyes); (focus exact rfl); (focus (simp only [go_sem, ↓reduceIte, Nat.reduceEqDiff, reduceCtorEq, Nat.reduceAdd, hd]; with_reducible exact rfl)); (focus first | assumption | exact rfl))
      | ((with_reducible apply arun_gundef); (focus exact rfl); (focus (simp only [go_sem, ↓reduceIte, Nat.reduceEqDiff, reduceCtorEq, Nat.reduceAdd, hd]; done)))
      | ((with_reducible apply arun_gno); (focus exact rfl); (focus (simp only [go_sem, ↓reduceIte, Nat.reduceEqDiff, reduceCtorEq, Nat.reduceAdd, hd]; with_reducible exact rfl)); (focus first | assumption | exact rfl))
      | ((with_reducible apply arun_guard); (focus exact rfl); (focus (simp only [go_sem, ↓reduceIte, Nat.reduceEqDiff, reduceCtorEq, Nat.reduceAdd, hd]; with_reducible exact rfl)); (focus intro hb); rotate_left; (focus intro hb); rotate_right))
    all_goals (simp only [go_sem, ↓reduceIte, Nat.reduceEqDiff, reduceCtorEq, Nat.reduceAdd]; refine hK1 _ ?_; clear hK1 K1)
    apply awp_cond
    (focus (simp only [go_sem, ↓reduceIte, Nat.reduceEqDiff, reduceCtorEq, Nat.reduceAdd]; exact rfl))
    all_goals intro hc
    ·
      have h3 : n ≤ 1048576 := by simpa using hc
      refine awp_region (Θ := Θ) (Γ := Γ) [0, 1] ΘOK ΓOK rfl ?_
      repeat' (first
        | (with_reducible refine arun_nil ?_)
        | ((with_reducible apply arun_any); (focus exact rfl); (focus (simp (disch := first | assumption | (with_reducible exact okL_limbs _) | omega) only [go_sem, ↓reduceIte, Nat.reduceEqDiff, reduceCtorEq, Nat.reduceAdd]; with_reducible exact rfl)); with_reducible (first | refine okk_some ?_ | (refine okk_ite ?_ ?_; (focus omega)) | (refine okk_ifn ?_ ?_; (focus omega)))))
      all_goals (simp only [go_sem, ↓reduceIte, Nat.reduceEqDiff, reduceCtorEq, Nat.reduceAdd])
      refine main (n % 2000) _ (by omega) (by omega) ?_ rfl
      first | (simp [agree_cons, agree_nil, slook_cons, vInt]; done) | (simp [agree_cons, agree_nil, slook_cons, vInt]; omega) | (simp [agree_cons, agree_nil, slook_cons, vInt]; grind)
    ·
      have h3 : ¬ n ≤ 1048576 := by simpa using hc
      refine awp_skip ?_
      refine main n _ hn (by omega) ?_ rfl
      first | (simp [agree_cons, agree_nil, slook_cons, vInt]; done) | (simp [agree_cons, agree_nil, slook_cons, vInt]; omega) | (simp [agree_cons, agree_nil, slook_cons, vInt]; grind)
  ·
    have hd : decide (n > 2000) = false := by simpa using h2
    refine awp_seq_k fun K1 hK1 => ?_
    refine awp_region (Θ := Θ) (Γ := Γ) [0, 1, 16] ΘOK ΓOK rfl ?_
    repeat' (first
      | (with_reducible refine arun_nil ?_)
      | ((with_reducible apply arun_any); (focus exact rfl); (focus (simp (disch := first | assumption | (with_reducible exact okL_limbs _) | omega) only [go_sem, ↓reduceIte, Nat.reduceEqDiff, reduceCtorEq, Nat.reduceAdd, hd]; with_reducible exact rfl)); with_reducible (first | refine okk_some ?_ | (refine okk_ite ?_ ?_; (focus omega)) | (refine okk_ifn ?_ ?_; (focus omega))))
      | ((with_reducible apply arun_gyes); (focus exact rfl); (focus (simp only [go_sem, ↓reduceIte, Nat.reduceEqDiff, reduceCtorEq, Nat.reduceAdd, hd]; with_reducible exact rfl)); (focus first | assumption | exact rfl))
      | ((with_reducible apply arun_gundef); (focus exact rfl); (focus (simp only [go_sem, ↓reduceIte, Nat.reduceEqDiff, reduceCtorEq, Nat.reduceAdd, hd]; done)))
      | ((with_reducible apply arun_gno); (focus exact rfl); (focus (simp only [go_sem, ↓reduceIte, Nat.reduceEqDiff, reduceCtorEq, Nat.reduceAdd, hd]; with_reducible exact rfl)); (focus first | assumption | exact rfl))
      | ((with_reducible apply arun_guard); (focus exact rfl); (focus (simp only [go_sem, ↓reduceIte, Nat.reduceEqDiff, reduceCtorEq, Nat.reduceAdd, hd]; with_reducible exact rfl)); (focus intro hb); rotate_left; (focus intro hb); rotate_right))
    all_goals (simp only [go_sem, ↓reduceIte, Nat.reduceEqDiff, reduceCtorEq, Nat.reduceAdd]; refine hK1 _ ?_; clear hK1 K1)
    apply awp_cond
    (focus (simp only [go_sem, ↓reduceIte, Nat.reduceEqDiff, reduceCtorEq, Nat.reduceAdd]; exact rfl))
    all_goals intro hc
    · cases hc
    ·
      refine awp_skip ?_
      refine main n _ hn (by omega) ?_ rfl
      first | (simp [agree_cons, agree_nil, slook_cons, vInt]; done) | (simp [agree_cons, agree_nil, slook_cons, vInt]; omega) | (simp [agree_cons, agree_nil, slook_cons, vInt]; grind)
end NatShifts

/-! ### NatHalves -/
theorem rShift_up {a k : Nat} (h : k ≤ 1000) : rShift a (k : Int) = .tup [.lst (ints .u32 (limbs (a * 2 ^ k))), .val (.bool true)] := by
  unfold rShift
  rw [if_neg (by omega), if_pos (by omega), Int.toNat_natCast]
theorem rShift_back {a k : Nat} (h : k ≤ 1000) : rShift (a * 2 ^ k) (0 - (k : Int)) = .tup [.lst (ints .u32 (limbs a)), .val (.bool true)] := by
  unfold rShift
  rw [if_neg (by omega)]
  by_cases hk : k = 0
  · subst hk; simp
  · rw [if_neg (by omega), show (-(0 - (k : Int))).toNat = k by omega, Nat.mul_div_cancel _ (Nat.pow_pos (by decide))]
theorem rShift_one (a : Nat) : rShift a 1 = .tup [.lst (ints .u32 (limbs (a + a))), .val (.bool true)] := by
  have := rShift_up (a := a) (k := 1) (by decide)
  rw [show a * 2 ^ 1 = a + a by omega] at this
  exact this
namespace NatHalves
def Γ : FuncId → Abs.Spec
  | 18 => .pure spCut
  | 21 => .pure spAwake
  | 22 => .pure spSame
  | 25 => .pure spPlain
  | 29 => .pure spBits
  | 35 => .pure spShift
  | 43 => .pure spAdd
  | _ => .none
theorem ΓOK : ∀ f, SpecOK Try.prog f (Γ f) := by
  intro f
  unfold Γ
  split
  · exact ⟨⟨_, Try.func18, by decide +kernel, rfl⟩, Cut.ok⟩
  · exact ⟨⟨_, Try.func21, by decide +kernel, rfl⟩, Awake.ok⟩
  · exact ⟨⟨_, Try.func22, by decide +kernel, rfl⟩, Same22.ok⟩
  · exact ⟨⟨_, Try.func25, by decide +kernel, rfl⟩, Plain.ok⟩
  · exact ⟨⟨_, Try.func29, by decide +kernel, rfl⟩, Bits.ok⟩
  · exact ⟨⟨_, Try.func35, by decide +kernel, rfl⟩, Shift.ok⟩
  · exact ⟨⟨_, Try.func43, by decide +kernel, rfl⟩, Add.ok⟩
  · trivial
attribute [local go_sem] Γ
theorem ok : PureOK Try.prog 17 spTrueLI := by
  refine pure_of_awp (n := 87) [4] Try.func17 rfl rfl rfl ?_
  intro M0 w0 args r h
  obtain ⟨L, n, rfl, hL, hLl, hn, rfl⟩ := spTrueLI_some h
  clear h
  refine ⟨by simp, ?_⟩
  have e100 : (100 : Int).toNat = 100 := rfl
  have hA := okL_take 100 hL
  have hAl : (L.take 100).length ≤ 100 := by simp; omega
  refine awp_seq_k fun K0 hK0 => ?_
  refine awp_region (Θ := Θ) (Γ := Γ) [0, 1] ΘOK ΓOK rfl ?_
  repeat' (first
    | (with_reducible refine arun_nil ?_)
    | ((with_reducible apply arun_any); (focus exact rfl); (focus (simp (disch := first | assumption | (with_reducible exact okL_limbs _) | omega) only [go_sem, ↓reduceIte, Nat.reduceEqDiff, reduceCtorEq, Nat.reduceAdd]; with_reducible exact rfl)); with_reducible (first | refine okk_some ?_ | (refine okk_ite ?_ ?_; (focus omega)) | (refine okk_ifn ?_ ?_; (focus omega)))))
  all_goals (simp only [go_sem, ↓reduceIte, Nat.reduceEqDiff, reduceCtorEq, Nat.reduceAdd]; refine hK0 _ ?_; clear hK0 K0)
  refine awp_seq_k fun K0 hK0 => ?_
  refine awp_region (Θ := Θ) (Γ := Γ) [0, 1, 5] ΘOK ΓOK rfl ?_
  repeat' (first
    | (with_reducible refine arun_nil ?_)
    | ((with_reducible apply arun_any); (focus exact rfl); (focus (simp (disch := first | assumption | (with_reducible exact okL_limbs _) | omega) only [go_sem, ↓reduceIte, Nat.reduceEqDiff, reduceCtorEq, Nat.reduceAdd]; with_reducible exact rfl)); with_reducible (first | refine okk_some ?_ | (refine okk_ite ?_ ?_; (focus omega)) | (refine okk_ifn ?_ ?_; (focus omega)))))
  all_goals (simp only [go_sem, ↓reduceIte, Nat.reduceEqDiff, reduceCtorEq, Nat.reduceAdd]; refine hK0 _ ?_; clear hK0 K0)
  refine awp_seq_k fun K0 hK0 => ?_
  refine awp_seq_k fun K1 hK1 => ?_
  refine awp_region (Θ := Θ) (Γ := Γ) [0, 1, 5, 14] ΘOK ΓOK rfl ?_
  repeat' (first
    | (with_reducible refine arun_nil ?_)
    | ((with_reducible apply arun_any); (focus exact rfl); (focus (simp (disch := first | assumption | (with_reducible exact okL_limbs _) | omega) only [go_sem, ↓reduceIte, Nat.reduceEqDiff, reduceCtorEq, Nat.reduceAdd]; with_reducible exact rfl)); with_reducible (first | refine okk_some ?_ | (refine okk_ite ?_ ?_; (focus omega)) | (refine okk_ifn ?_ ?_; (focus omega)))))
  all_goals (simp only [go_sem, ↓reduceIte, Nat.reduceEqDiff, reduceCtorEq, Nat.reduceAdd]; refine hK1 _ ?_; clear hK1 K1)
  apply awp_cond
  (focus (simp only [go_sem, ↓reduceIte, Nat.reduceEqDiff, reduceCtorEq, Nat.reduceAdd]; exact rfl))
  all_goals intro hc
  · cases hc
  ·
    refine awp_skip ?_
    refine hK0 _ ?_; clear hK0 K0
    refine awp_seq_k fun K0 hK0 => ?_
    refine awp_region (Θ := Θ) (Γ := Γ) [0, 1, 5] ΘOK ΓOK rfl ?_
    repeat' (first
      | (with_reducible refine arun_nil ?_)
      | ((with_reducible apply arun_any); (focus exact rfl); (focus (simp (disch := first | assumption | (with_reducible exact okL_limbs _) | omega) only [go_sem, ↓reduceIte, Nat.reduceEqDiff, reduceCtorEq, Nat.reduceAdd, e100]; with_reducible exact rfl)); with_reducible (first | refine okk_some ?_ | (refine okk_ite ?_ ?_; (focus omega)) | (refine okk_ifn ?_ ?_; (focus omega)))))
    all_goals (simp only [go_sem, ↓reduceIte, Nat.reduceEqDiff, reduceCtorEq, Nat.reduceAdd]; refine hK0 _ ?_; clear hK0 K0)
    generalize L.take 100 = A at *
    have eA := Nat.lt_of_lt_of_le (nv_lt hA) (Nat.pow_le_pow_right B_pos hAl)
    refine awp_seq_k fun K0 hK0 => ?_
    have rest : 0 ≤ n → n ≤ 1000 → ∀ σ : St, agree [(0, .lst (ints .u32 A)), (1, vInt .i64 n), (5, .val (.bool true))] σ.t → σ.h = hlook [] → K0 σ := by
      intro hn0 hn1 σ hag hh
      refine hK0 σ ?_
      refine awp_forget _ hag ?_
      rw [hh]
      clear hag hh hK0 K0
      obtain ⟨k, rfl⟩ := Int.eq_ofNat_of_zero_le hn0
      have hk : k ≤ 1000 := by omega
      have r1 := rShift_up (a := nv A) hk
      have r2 := rShift_back (a := nv A) hk
      have r3 := rShift_one (nv A)
      have hPv := nv_limbs (nv A * 2 ^ k)
      have hP := okL_limbs (nv A * 2 ^ k)
      have hPl : (limbs (nv A * 2 ^ k)).length ≤ 200 := by
        refine limbs_length_le ?_
        rw [show (200 : Nat) = 100 + 100 from rfl, Nat.pow_add]
        refine Nat.mul_lt_mul_of_lt_of_le eA ?_ (Nat.pow_pos B_pos)
        rw [B_pow]
        exact Nat.pow_le_pow_right (by decide) (by omega)
      have hQ := okL_limbs (nv A)
      have hQl := limbs_length_nv hA
      have hD := okL_limbs (nv A + nv A)
      have hDl : (limbs (nv A + nv A)).length ≤ 101 := by
        refine limbs_length_le ?_
        rw [Nat.pow_succ]
        unfold B at eA ⊢
        omega
      have hbb : nv A ≠ 0 → bl (nv A * 2 ^ k) = bl (nv A) + k := fun h0 => by
        have e : nv A * 2 ^ k / 2 ^ k = nv A := Nat.mul_div_cancel _ (Nat.pow_pos (by decide))
        have := bl_shift k (n := nv A * 2 ^ k) (by rw [e]; exact h0)
        rw [e] at this
        exact this
      have hblle : bl (nv A) ≤ 3200 := by
        rw [B_pow] at eA
        exact bl_le eA
      clear eA
      refine awp_seq_k fun K0 hK0 => ?_
      refine awp_region (Θ := Θ) (Γ := Γ) [0, 1, 5, 6, 7] ΘOK ΓOK rfl ?_
      repeat' (first
        | (with_reducible refine arun_nil ?_)
        | ((with_reducible apply arun_any); (focus exact rfl); (focus (simp (disch := first | assumption | (with_reducible exact okL_limbs _) | omega) only [go_sem, ↓reduceIte, Nat.reduceEqDiff, reduceCtorEq, Nat.reduceAdd, r1]; with_reducible exact rfl)); with_reducible (first | refine okk_some ?_ | (refine okk_ite ?_ ?_; (focus omega)) | (refine okk_ifn ?_ ?_; (focus omega)))))
      all_goals (simp only [go_sem, ↓reduceIte, Nat.reduceEqDiff, reduceCtorEq, Nat.reduceAdd]; refine hK0 _ ?_; clear hK0 K0)
      refine awp_seq_k fun K0 hK0 => ?_
      refine awp_region (Θ := Θ) (Γ := Γ) [0, 1, 5, 6, 7, 8, 9] ΘOK ΓOK rfl ?_
      repeat' (first
        | (with_reducible refine arun_nil ?_)
        | ((with_reducible apply arun_any); (focus exact rfl); (focus (simp (disch := first | assumption | (with_reducible exact okL_limbs _) | omega) only [go_sem, ↓reduceIte, Nat.reduceEqDiff, reduceCtorEq, Nat.reduceAdd, hPv, r2]; with_reducible exact rfl)); with_reducible (first | refine okk_some ?_ | (refine okk_ite ?_ ?_; (focus omega)) | (refine okk_ifn ?_ ?_; (focus omega)))))
      all_goals (simp only [go_sem, ↓reduceIte, Nat.reduceEqDiff, reduceCtorEq, Nat.reduceAdd]; refine hK0 _ ?_; clear hK0 K0)
      refine awp_seq_k fun K0 hK0 => ?_
      refine awp_region (Θ := Θ) (Γ := Γ) [0, 1, 5, 6, 7, 8, 9, 10, 11] ΘOK ΓOK rfl ?_
      repeat' (first
        | (with_reducible refine arun_nil ?_)
        | ((with_reducible apply arun_any); (focus exact rfl); (focus (simp (disch := first | assumption | (with_reducible exact okL_limbs _) | omega) only [go_sem, ↓reduceIte, Nat.reduceEqDiff, reduceCtorEq, Nat.reduceAdd, r3]; with_reducible exact rfl)); with_reducible (first | refine okk_some ?_ | (refine okk_ite ?_ ?_; (focus omega)) | (refine okk_ifn ?_ ?_; (focus omega)))))
      all_goals (simp only [go_sem, ↓reduceIte, Nat.reduceEqDiff, reduceCtorEq, Nat.reduceAdd]; refine hK0 _ ?_; clear hK0 K0)
      refine awp_seq_k fun K0 hK0 => ?_
      have hdec : ∀ x : List Int, decide (x = x) = true := fun x => by simp
      refine awp_seq_k fun K1 hK1 => ?_
      refine awp_region (Θ := Θ) (Γ := Γ) [0, 1, 5, 6, 66] ΘOK ΓOK rfl ?_
      repeat' (first
        | (with_reducible refine arun_nil ?_)
        | ((with_reducible apply arun_any); (focus exact rfl); (focus (simp (disch := first | assumption | (with_reducible exact okL_limbs _) | omega) only [go_sem, ↓reduceIte, Nat.reduceEqDiff, reduceCtorEq, Nat.reduceAdd, hdec, Bool.not_true]; with_reducible exact rfl)); with_reducible (first | refine okk_some ?_ | (refine okk_ite ?_ ?_; (focus omega)) | (refine okk_ifn ?_ ?_; (focus omega))))
        | ((with_reducible apply arun_gyes); (focus exact rfl); (focus (simp only [go_sem, ↓reduceIte, Nat.reduceEqDiff, reduceCtorEq, Nat.reduceAdd, hdec, Bool.not_true]; with_reducible exact rfl)); (focus first | assumption | exact rfl))
        | ((with_reducible apply arun_gundef); (focus exact rfl); (focus (simp only [go_sem, ↓reduceIte, Nat.reduceEqDiff, reduceCtorEq, Nat.reduceAdd, hdec, Bool.not_true]; done)))
        | ((with_reducible apply arun_gno); (focus exact rfl); (focus (simp only [go_sem, ↓reduceIte, Nat.reduceEqDiff, reduceCtorEq, Nat.reduceAdd, hdec, Bool.not_true]; with_reducible exact rfl)); (focus first | assumption | exact rfl))
        | ((with_reducible apply arun_guard); (focus exact rfl); (focus (simp only [go_sem, ↓reduceIte, Nat.reduceEqDiff, reduceCtorEq, Nat.reduceAdd, hdec, Bool.not_true]; with_reducible exact rfl)); (focus intro hb); rotate_left; (focus intro hb); rotate_right))
      all_goals (simp only [go_sem, ↓reduceIte, Nat.reduceEqDiff, reduceCtorEq, Nat.reduceAdd]; refine hK1 _ ?_; clear hK1 K1)
      apply awp_cond
      (focus (simp only [go_sem, ↓reduceIte, Nat.reduceEqDiff, reduceCtorEq, Nat.reduceAdd]; exact rfl))
      all_goals intro hc
      · simp at hc
      ·
        clear hc
        refine awp_skip ?_
        refine hK0 _ ?_; clear hK0 K0
        by_cases h0 : nv A = 0
        ·
          have hd0 : decide (nv A = 0) = true := by simpa using h0
          have hd1 : decide (nv A * 2 ^ k = 0) = true := by simp [h0]
          refine awp_seq_k fun K0 hK0 => ?_
          refine awp_region (Θ := Θ) (Γ := Γ) [4] ΘOK ΓOK rfl ?_
          repeat' (first
            | (with_reducible refine arun_nil ?_)
            | ((with_reducible apply arun_any); (focus exact rfl); (focus (simp (disch := first | assumption | (with_reducible exact okL_limbs _) | omega) only [go_sem, ↓reduceIte, Nat.reduceEqDiff, reduceCtorEq, Nat.reduceAdd, hPv, bl_beq, hd0, hd1]; with_reducible exact rfl)); with_reducible (first | refine okk_some ?_ | (refine okk_ite ?_ ?_; (focus omega)) | (refine okk_ifn ?_ ?_; (focus omega))))
            | ((with_reducible apply arun_gyes); (focus exact rfl); (focus (simp only [go_sem, ↓reduceIte, Nat.reduceEqDiff, reduceCtorEq, Nat.reduceAdd, hPv, bl_beq, hd0, hd1]; with_reducible exact rfl)); (focus first | assumption | exact rfl))
            | ((with_reducible apply arun_gundef); (focus exact rfl); (focus (simp only [go_sem, ↓reduceIte, Nat.reduceEqDiff, reduceCtorEq, Nat.reduceAdd, hPv, bl_beq, hd0, hd1]; done)))
            | ((with_reducible apply arun_gno); (focus exact rfl); (focus (simp only [go_sem, ↓reduceIte, Nat.reduceEqDiff, reduceCtorEq, Nat.reduceAdd, hPv, bl_beq, hd0, hd1]; with_reducible exact rfl)); (focus first | assumption | exact rfl))
            | ((with_reducible apply arun_guard); (focus exact rfl); (focus (simp only [go_sem, ↓reduceIte, Nat.reduceEqDiff, reduceCtorEq, Nat.reduceAdd, hPv, bl_beq, hd0, hd1]; with_reducible exact rfl)); (focus intro hb); rotate_left; (focus intro hb); rotate_right))
          all_goals (simp only [go_sem, ↓reduceIte, Nat.reduceEqDiff, reduceCtorEq, Nat.reduceAdd]; refine hK0 _ ?_; clear hK0 K0)
          refine awp_ret ?_
          simp only [go_sem, ↓reduceIte, Nat.reduceEqDiff, reduceCtorEq, Nat.reduceAdd, Res]
        ·
          have hd0 : decide (nv A = 0) = false := by simpa using h0
          have hb2 := hbb h0
          have hbe : (((bl (nv A) + k : Nat) : Int) == (bl (nv A) : Int) + (k : Int)) = true := by
            rw [beq_iff_eq]; omega
          refine awp_seq_k fun K0 hK0 => ?_
          refine awp_region (Θ := Θ) (Γ := Γ) [4] ΘOK ΓOK rfl ?_
          repeat' (first
            | (with_reducible refine arun_nil ?_)
            | ((with_reducible apply arun_any); (focus exact rfl); (focus (simp (disch := first | assumption | (with_reducible exact okL_limbs _) | omega) only [go_sem, ↓reduceIte, Nat.reduceEqDiff, reduceCtorEq, Nat.reduceAdd, hPv, bl_beq, hd0, hb2, hbe]; with_reducible exact rfl)); with_reducible (first | refine okk_some ?_ | (refine okk_ite ?_ ?_; (focus omega)) | (refine okk_ifn ?_ ?_; (focus omega))))
            | ((with_reducible apply arun_gyes); (focus exact rfl); (focus (simp only [go_sem, ↓reduceIte, Nat.reduceEqDiff, reduceCtorEq, Nat.reduceAdd, hPv, bl_beq, hd0, hb2, hbe]; with_reducible exact rfl)); (focus first | assumption | exact rfl))
            | ((with_reducible apply arun_gundef); (focus exact rfl); (focus (simp only [go_sem, ↓reduceIte, Nat.reduceEqDiff, reduceCtorEq, Nat.reduceAdd, hPv, bl_beq, hd0, hb2, hbe]; done)))
            | ((with_reducible apply arun_gno); (focus exact rfl); (focus (simp only [go_sem, ↓reduceIte, Nat.reduceEqDiff, reduceCtorEq, Nat.reduceAdd, hPv, bl_beq, hd0, hb2, hbe]; with_reducible exact rfl)); (focus first | assumption | exact rfl))
            | ((with_reducible apply arun_guard); (focus exact rfl); (focus (simp only [go_sem, ↓reduceIte, Nat.reduceEqDiff, reduceCtorEq, Nat.reduceAdd, hPv, bl_beq, hd0, hb2, hbe]; with_reducible exact rfl)); (focus intro hb); rotate_left; (focus intro hb); rotate_right))
          all_goals (simp only [go_sem, ↓reduceIte, Nat.reduceEqDiff, reduceCtorEq, Nat.reduceAdd]; refine hK0 _ ?_; clear hK0 K0)
          refine awp_ret ?_
          simp only [go_sem, ↓reduceIte, Nat.reduceEqDiff, reduceCtorEq, Nat.reduceAdd, Res]
    by_cases hneg : n < 0
    ·
      have hd : decide (n < 0) = true := by simpa using hneg
      refine awp_seq_k fun K1 hK1 => ?_
      refine awp_region (Θ := Θ) (Γ := Γ) [0, 1, 5, 22] ΘOK ΓOK rfl ?_
      repeat' (first
        | (with_reducible refine arun_nil ?_)
        | ((with_reducible apply arun_any); (focus exact rfl); (focus (simp (disch := first | assumption | (with_reducible exact okL_limbs _) | omega) only [go_sem, ↓reduceIte, Nat.reduceEqDiff, reduceCtorEq, Nat.reduceAdd, hd]; with_reducible exact rfl)); with_reducible (first | refine okk_some ?_ | (refine okk_ite ?_ ?_; (focus omega)) | (refine okk_ifn ?_ ?_; (focus omega))))
        | ((with_reducible apply arun_gyes); (focus exact rfl); (focus (simp only [go_sem, ↓reduceIte, Nat.reduceEqDiff, reduceCtorEq, Nat.reduceAdd, hd]; with_reducible exact rfl)); (focus first | assumption | exact rfl))
        | ((with_reducible apply arun_gundef); (focus exact rfl); (focus (simp only [go_sem, ↓reduceIte, Nat.reduceEqDiff, reduceCtorEq, Nat.reduceAdd, hd]; done)))
        | ((with_reducible apply arun_gno); (focus exact rfl); (focus (simp only [go_sem, ↓reduceIte, Nat.reduceEqDiff, reduceCtorEq, Nat.reduceAdd, hd]; with_reducible exact rfl)); (focus first | assumption | exact rfl))
        | ((with_reducible apply arun_guard); (focus exact rfl); (focus (simp only [go_sem, ↓reduceIte, Nat.reduceEqDiff, reduceCtorEq, Nat.reduceAdd, hd]; with_reducible exact rfl)); (focus intro hb); rotate_left; (focus intro hb); rotate_right))
      all_goals (simp only [go_sem, ↓reduceIte, Nat.reduceEqDiff, reduceCtorEq, Nat.reduceAdd]; refine hK1 _ ?_; clear hK1 K1)
      apply awp_cond
      (focus (simp only [go_sem, ↓reduceIte, Nat.reduceEqDiff, reduceCtorEq, Nat.reduceAdd]; exact rfl))
      all_goals intro hc
      ·
        refine awp_seq_k fun K1 hK1 => ?_
        refine awp_region (Θ := Θ) (Γ := Γ) [4] ΘOK ΓOK rfl ?_
        repeat' (first
          | (with_reducible refine arun_nil ?_)
          | ((with_reducible apply arun_any); (focus exact rfl); (focus (simp (disch := first | assumption | (with_reducible exact okL_limbs _) | omega) only [go_sem, ↓reduceIte, Nat.reduceEqDiff, reduceCtorEq, Nat.reduceAdd]; with_reducible exact rfl)); with_reducible (first | refine okk_some ?_ | (refine okk_ite ?_ ?_; (focus omega)) | (refine okk_ifn ?_ ?_; (focus omega)))))
        all_goals (simp only [go_sem, ↓reduceIte, Nat.reduceEqDiff, reduceCtorEq, Nat.reduceAdd]; refine hK1 _ ?_; clear hK1 K1)
        refine awp_ret ?_
        simp only [go_sem, ↓reduceIte, Nat.reduceEqDiff, reduceCtorEq, Nat.reduceAdd, Res]
      · cases hc
    ·
      have hd : decide (n < 0) = false := by simpa using hneg
      refine awp_seq_k fun K1 hK1 => ?_
      refine awp_region (Θ := Θ) (Γ := Γ) [0, 1, 5, 22] ΘOK ΓOK rfl ?_
      repeat' (first
        | (with_reducible refine arun_nil ?_)
        | ((with_reducible apply arun_any); (focus exact rfl); (focus (simp (disch := first | assumption | (with_reducible exact okL_limbs _) | omega) only [go_sem, ↓reduceIte, Nat.reduceEqDiff, reduceCtorEq, Nat.reduceAdd, hd]; with_reducible exact rfl)); with_reducible (first | refine okk_some ?_ | (refine okk_ite ?_ ?_; (focus omega)) | (refine okk_ifn ?_ ?_; (focus omega))))
        | ((with_reducible apply arun_gyes); (focus exact rfl); (focus (simp only [go_sem, ↓reduceIte, Nat.reduceEqDiff, reduceCtorEq, Nat.reduceAdd, hd]; with_reducible exact rfl)); (focus first | assumption | exact rfl))
        | ((with_reducible apply arun_gundef); (focus exact rfl); (focus (simp only [go_sem, ↓reduceIte, Nat.reduceEqDiff, reduceCtorEq, Nat.reduceAdd, hd]; done)))
        | ((with_reducible apply arun_gno); (focus exact rfl); (focus (simp only [go_sem, ↓reduceIte, Nat.reduceEqDiff, reduceCtorEq, Nat.reduceAdd, hd]; with_reducible exact rfl)); (focus first | assumption | exact rfl))
        | ((with_reducible apply arun_guard); (focus exact rfl); (focus (simp only [go_sem, ↓reduceIte, Nat.reduceEqDiff, reduceCtorEq, Nat.reduceAdd, hd]; with_reducible exact rfl)); (focus intro hb); rotate_left; (focus intro hb); rotate_right))
      all_goals (simp only [go_sem, ↓reduceIte, Nat.reduceEqDiff, reduceCtorEq, Nat.reduceAdd]; refine hK1 _ ?_; clear hK1 K1)
      apply awp_cond
      (focus (simp only [go_sem, ↓reduceIte, Nat.reduceEqDiff, reduceCtorEq, Nat.reduceAdd]; exact rfl))
      all_goals intro hc
      ·
        refine awp_seq_k fun K1 hK1 => ?_
        refine awp_region (Θ := Θ) (Γ := Γ) [4] ΘOK ΓOK rfl ?_
        repeat' (first
          | (with_reducible refine arun_nil ?_)
          | ((with_reducible apply arun_any); (focus exact rfl); (focus (simp (disch := first | assumption | (with_reducible exact okL_limbs _) | omega) only [go_sem, ↓reduceIte, Nat.reduceEqDiff, reduceCtorEq, Nat.reduceAdd]; with_reducible exact rfl)); with_reducible (first | refine okk_some ?_ | (refine okk_ite ?_ ?_; (focus omega)) | (refine okk_ifn ?_ ?_; (focus omega)))))
        all_goals (simp only [go_sem, ↓reduceIte, Nat.reduceEqDiff, reduceCtorEq, Nat.reduceAdd]; refine hK1 _ ?_; clear hK1 K1)
        refine awp_ret ?_
        simp only [go_sem, ↓reduceIte, Nat.reduceEqDiff, reduceCtorEq, Nat.reduceAdd, Res]
      ·
        have h1 : n ≤ 1000 := by simp at hc; omega
        refine awp_skip ?_
        refine rest (by omega) h1 _ ?_ rfl
        first | (simp [agree_cons, agree_nil, slook_cons, vInt]; done) | (simp [agree_cons, agree_nil, slook_cons, vInt]; omega) | (simp [agree_cons, agree_nil, slook_cons, vInt]; grind)
end NatHalves
end Go.Proofs
