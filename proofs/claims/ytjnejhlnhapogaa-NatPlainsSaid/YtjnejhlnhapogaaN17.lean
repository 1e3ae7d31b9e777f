/- Contracts of functions that the law reaches: what they compute. -/
import Derived.Test.YtjnejhlnhapogaaN16
import Derived.Test.YtjnejhlnhapogaaNatMath4
namespace Go.Proofs
open Go.Abs Go.NatMath
set_option linter.unusedVariables false
set_option linter.unusedSimpArgs false

/-! ### the document's Bits -/
def spBits : List AV → Option AV := sp1 0 fun L => some (.val (.int .i64 (bl (nv L) : Int)))
attribute [go_sem] spBits
namespace RBits
def Γ : FuncId → Abs.Spec
  | 26 => .pure spPlain
  | _ => .none
theorem ΓOK : ∀ f, SpecOK Try.prog f (Γ f) := by
  intro f
  unfold Γ
  split
  · exact ⟨⟨_, Try.func26, by decide +kernel, rfl⟩, RPlain.ok⟩
  · trivial
attribute [local go_sem] Γ
theorem ok : PureOK Try.prog 30 spBits := by
  refine pure_of_awp (n := 27) [2] Try.func30 rfl rfl rfl ?_
  intro M0 w0 args r h
  obtain ⟨L, rfl, hL, hLl, hr⟩ := sp1_some h
  cases hr
  clear h
  refine ⟨by simp, ?_⟩
  refine awp_seq_k fun K hK => ?_
  refine awp_region (Θ := Θ) (Γ := Γ) [0] ΘOK ΓOK rfl ?_
  repeat' (first
    | (with_reducible refine arun_nil ?_)
    | ((with_reducible apply arun_step); (focus exact rfl); (focus (simp (disch := first | assumption | (with_reducible exact okL_limbs _) | omega) only [go_sem, ↓reduceIte, Nat.reduceEqDiff, reduceCtorEq, Nat.reduceAdd]; with_reducible exact rfl)))
    | ((with_reducible apply arun_if); (focus exact rfl); (focus (simp (disch := first | assumption | (with_reducible exact okL_limbs _) | omega) only [go_sem, ↓reduceIte, Nat.reduceEqDiff, reduceCtorEq, Nat.reduceAdd]; with_reducible exact rfl)); (focus omega))
    | ((with_reducible apply arun_ifn); (focus exact rfl); (focus (simp (disch := first | assumption | (with_reducible exact okL_limbs _) | omega) only [go_sem, ↓reduceIte, Nat.reduceEqDiff, reduceCtorEq, Nat.reduceAdd]; with_reducible exact rfl)); (focus omega))
    | ((with_reducible apply arun_gyes); (focus exact rfl); (focus (simp only [go_sem, ↓reduceIte, Nat.reduceEqDiff, reduceCtorEq, Nat.reduceAdd]; with_reducible exact rfl)); (focus first | assumption | exact rfl))
    | ((with_reducible apply arun_gno); (focus exact rfl); (focus (simp only [go_sem, ↓reduceIte, Nat.reduceEqDiff, reduceCtorEq, Nat.reduceAdd]; with_reducible exact rfl)); (focus first | assumption | exact rfl))
    | ((with_reducible apply arun_guard); (focus exact rfl); (focus (simp only [go_sem, ↓reduceIte, Nat.reduceEqDiff, reduceCtorEq, Nat.reduceAdd]; with_reducible exact rfl)); (focus intro hb); rotate_left; (focus intro hb); rotate_right))
  all_goals (simp only [go_sem, ↓reduceIte, Nat.reduceEqDiff, reduceCtorEq, Nat.reduceAdd]; refine hK _ ?_; clear hK K)
  have hA := okL_limbs (nv L)
  have hAl := limbs_length_nv hL
  have hz := @limbs_eq_nil (nv L)
  have ht := @bl_top (nv L)
  refine awp_seq_k fun K hK => ?_
  refine awp_region (Θ := Θ) (Γ := Γ) [0] ΘOK ΓOK rfl ?_
  repeat' (first
    | (with_reducible refine arun_nil ?_)
    | ((with_reducible apply arun_step); (focus exact rfl); (focus (simp (disch := first | assumption | (with_reducible exact okL_limbs _) | omega) only [go_sem, ↓reduceIte, Nat.reduceEqDiff, reduceCtorEq, Nat.reduceAdd]; with_reducible exact rfl)))
    | ((with_reducible apply arun_if); (focus exact rfl); (focus (simp (disch := first | assumption | (with_reducible exact okL_limbs _) | omega) only [go_sem, ↓reduceIte, Nat.reduceEqDiff, reduceCtorEq, Nat.reduceAdd]; with_reducible exact rfl)); (focus omega))
    | ((with_reducible apply arun_ifn); (focus exact rfl); (focus (simp (disch := first | assumption | (with_reducible exact okL_limbs _) | omega) only [go_sem, ↓reduceIte, Nat.reduceEqDiff, reduceCtorEq, Nat.reduceAdd]; with_reducible exact rfl)); (focus omega))
    | ((with_reducible apply arun_gyes); (focus exact rfl); (focus (simp only [go_sem, ↓reduceIte, Nat.reduceEqDiff, reduceCtorEq, Nat.reduceAdd]; with_reducible exact rfl)); (focus first | assumption | exact rfl))
    | ((with_reducible apply arun_gno); (focus exact rfl); (focus (simp only [go_sem, ↓reduceIte, Nat.reduceEqDiff, reduceCtorEq, Nat.reduceAdd]; with_reducible exact rfl)); (focus first | assumption | exact rfl))
    | ((with_reducible apply arun_guard); (focus exact rfl); (focus (simp only [go_sem, ↓reduceIte, Nat.reduceEqDiff, reduceCtorEq, Nat.reduceAdd]; with_reducible exact rfl)); (focus intro hb); rotate_left; (focus intro hb); rotate_right))
  all_goals (simp only [go_sem, ↓reduceIte, Nat.reduceEqDiff, reduceCtorEq, Nat.reduceAdd]; refine hK _ ?_; clear hK K)
  generalize hn : nv L = n at *
  generalize limbs n = A at *
  refine awp_seq_k fun K hK => ?_
  refine awp_seq_k fun K1 hK1 => ?_
  refine awp_region (Θ := Θ) (Γ := Γ) [0, 9] ΘOK ΓOK rfl ?_
  repeat' (first
    | (with_reducible refine arun_nil ?_)
    | ((with_reducible apply arun_step); (focus exact rfl); (focus (simp (disch := first | assumption | (with_reducible exact okL_limbs _) | omega) only [go_sem, ↓reduceIte, Nat.reduceEqDiff, reduceCtorEq, Nat.reduceAdd]; with_reducible exact rfl)))
    | ((with_reducible apply arun_if); (focus exact rfl); (focus (simp (disch := first | assumption | (with_reducible exact okL_limbs _) | omega) only [go_sem, ↓reduceIte, Nat.reduceEqDiff, reduceCtorEq, Nat.reduceAdd]; with_reducible exact rfl)); (focus omega))
    | ((with_reducible apply arun_ifn); (focus exact rfl); (focus (simp (disch := first | assumption | (with_reducible exact okL_limbs _) | omega) only [go_sem, ↓reduceIte, Nat.reduceEqDiff, reduceCtorEq, Nat.reduceAdd]; with_reducible exact rfl)); (focus omega))
    | ((with_reducible apply arun_gyes); (focus exact rfl); (focus (simp only [go_sem, ↓reduceIte, Nat.reduceEqDiff, reduceCtorEq, Nat.reduceAdd]; with_reducible exact rfl)); (focus first | assumption | exact rfl))
    | ((with_reducible apply arun_gno); (focus exact rfl); (focus (simp only [go_sem, ↓reduceIte, Nat.reduceEqDiff, reduceCtorEq, Nat.reduceAdd]; with_reducible exact rfl)); (focus first | assumption | exact rfl))
    | ((with_reducible apply arun_guard); (focus exact rfl); (focus (simp only [go_sem, ↓reduceIte, Nat.reduceEqDiff, reduceCtorEq, Nat.reduceAdd]; with_reducible exact rfl)); (focus intro hb); rotate_left; (focus intro hb); rotate_right))
  all_goals (simp only [go_sem, ↓reduceIte, Nat.reduceEqDiff, reduceCtorEq, Nat.reduceAdd]; refine hK1 _ ?_; clear hK1 K1)
  apply awp_cond
  (focus (simp only [go_sem, ↓reduceIte, Nat.reduceEqDiff, reduceCtorEq, Nat.reduceAdd]; exact rfl))
  all_goals intro hc
  · have h0 : n = 0 := hz.1 (by simpa using hc)
    refine awp_seq_k fun K1 hK1 => ?_
    refine awp_region (Θ := Θ) (Γ := Γ) [2] ΘOK ΓOK rfl ?_
    repeat' (first
      | (with_reducible refine arun_nil ?_)
      | ((with_reducible apply arun_step); (focus exact rfl); (focus (simp (disch := first | assumption | (with_reducible exact okL_limbs _) | omega) only [go_sem, ↓reduceIte, Nat.reduceEqDiff, reduceCtorEq, Nat.reduceAdd]; with_reducible exact rfl)))
      | ((with_reducible apply arun_if); (focus exact rfl); (focus (simp (disch := first | assumption | (with_reducible exact okL_limbs _) | omega) only [go_sem, ↓reduceIte, Nat.reduceEqDiff, reduceCtorEq, Nat.reduceAdd]; with_reducible exact rfl)); (focus omega))
      | ((with_reducible apply arun_ifn); (focus exact rfl); (focus (simp (disch := first | assumption | (with_reducible exact okL_limbs _) | omega) only [go_sem, ↓reduceIte, Nat.reduceEqDiff, reduceCtorEq, Nat.reduceAdd]; with_reducible exact rfl)); (focus omega))
      | ((with_reducible apply arun_gyes); (focus exact rfl); (focus (simp only [go_sem, ↓reduceIte, Nat.reduceEqDiff, reduceCtorEq, Nat.reduceAdd]; with_reducible exact rfl)); (focus first | assumption | exact rfl))
      | ((with_reducible apply arun_gno); (focus exact rfl); (focus (simp only [go_sem, ↓reduceIte, Nat.reduceEqDiff, reduceCtorEq, Nat.reduceAdd]; with_reducible exact rfl)); (focus first | assumption | exact rfl))
      | ((with_reducible apply arun_guard); (focus exact rfl); (focus (simp only [go_sem, ↓reduceIte, Nat.reduceEqDiff, reduceCtorEq, Nat.reduceAdd]; with_reducible exact rfl)); (focus intro hb); rotate_left; (focus intro hb); rotate_right))
    all_goals (simp only [go_sem, ↓reduceIte, Nat.reduceEqDiff, reduceCtorEq, Nat.reduceAdd]; refine hK1 _ ?_; clear hK1 K1)
    refine awp_ret ?_
    subst h0
    simp only [go_sem, ↓reduceIte, Nat.reduceEqDiff, reduceCtorEq, Nat.reduceAdd, Res, bl_zero]
    rfl
  · have h0 : n ≠ 0 := fun e => by have := hz.2 e; simp [this] at hc
    have ht := ht h0
    have hl : 1 ≤ A.length := by
      rcases Nat.eq_zero_or_pos A.length with e | e
      · simp [e] at hc
      · exact e
    clear hc hz
    refine awp_skip ?_
    refine hK _ ?_; clear hK K
    refine awp_seq_k fun K hK => ?_
    refine awp_region (Θ := Θ) (Γ := Γ) [0, 3] ΘOK ΓOK rfl ?_
    repeat' (first
      | (with_reducible refine arun_nil ?_)
      | ((with_reducible apply arun_step); (focus exact rfl); (focus (simp (disch := first | assumption | (with_reducible exact okL_limbs _) | omega) only [go_sem, ↓reduceIte, Nat.reduceEqDiff, reduceCtorEq, Nat.reduceAdd]; with_reducible exact rfl)))
      | ((with_reducible apply arun_if); (focus exact rfl); (focus (simp (disch := first | assumption | (with_reducible exact okL_limbs _) | omega) only [go_sem, ↓reduceIte, Nat.reduceEqDiff, reduceCtorEq, Nat.reduceAdd]; with_reducible exact rfl)); (focus omega))
      | ((with_reducible apply arun_ifn); (focus exact rfl); (focus (simp (disch := first | assumption | (with_reducible exact okL_limbs _) | omega) only [go_sem, ↓reduceIte, Nat.reduceEqDiff, reduceCtorEq, Nat.reduceAdd]; with_reducible exact rfl)); (focus omega))
      | ((with_reducible apply arun_gyes); (focus exact rfl); (focus (simp only [go_sem, ↓reduceIte, Nat.reduceEqDiff, reduceCtorEq, Nat.reduceAdd]; with_reducible exact rfl)); (focus first | assumption | exact rfl))
      | ((with_reducible apply arun_gno); (focus exact rfl); (focus (simp only [go_sem, ↓reduceIte, Nat.reduceEqDiff, reduceCtorEq, Nat.reduceAdd]; with_reducible exact rfl)); (focus first | assumption | exact rfl))
      | ((with_reducible apply arun_guard); (focus exact rfl); (focus (simp only [go_sem, ↓reduceIte, Nat.reduceEqDiff, reduceCtorEq, Nat.reduceAdd]; with_reducible exact rfl)); (focus intro hb); rotate_left; (focus intro hb); rotate_right))
    all_goals (simp only [go_sem, ↓reduceIte, Nat.reduceEqDiff, reduceCtorEq, Nat.reduceAdd]; refine hK _ ?_; clear hK K)
    have hx := okL_get hA (A.length - 1)
    have e1 : ((A.length : Int) - 1).toNat = A.length - 1 := by omega
    generalize hxe : A.getD (A.length - 1) 0 = x at *
    obtain ⟨X, rfl⟩ := Int.eq_ofNat_of_zero_le hx.1
    simp only [Int.toNat_natCast] at ht
    refine awp_seq_k fun K hK => ?_
    refine awp_seq_k fun K1 hK1 => ?_
    refine awp_region (Θ := Θ) (Γ := Γ) [3, 4] ΘOK ΓOK rfl ?_
    repeat' (first
      | (with_reducible refine arun_nil ?_)
      | ((with_reducible apply arun_step); (focus exact rfl); (focus (simp (disch := first | assumption | (with_reducible exact okL_limbs _) | omega) only [go_sem, ↓reduceIte, Nat.reduceEqDiff, reduceCtorEq, Nat.reduceAdd, e1, hxe]; with_reducible exact rfl)))
      | ((with_reducible apply arun_if); (focus exact rfl); (focus (simp (disch := first | assumption | (with_reducible exact okL_limbs _) | omega) only [go_sem, ↓reduceIte, Nat.reduceEqDiff, reduceCtorEq, Nat.reduceAdd, e1, hxe]; with_reducible exact rfl)); (focus omega))
      | ((with_reducible apply arun_ifn); (focus exact rfl); (focus (simp (disch := first | assumption | (with_reducible exact okL_limbs _) | omega) only [go_sem, ↓reduceIte, Nat.reduceEqDiff, reduceCtorEq, Nat.reduceAdd, e1, hxe]; with_reducible exact rfl)); (focus omega))
      | ((with_reducible apply arun_gyes); (focus exact rfl); (focus (simp only [go_sem, ↓reduceIte, Nat.reduceEqDiff, reduceCtorEq, Nat.reduceAdd, e1, hxe]; with_reducible exact rfl)); (focus first | assumption | exact rfl))
      | ((with_reducible apply arun_gno); (focus exact rfl); (focus (simp only [go_sem, ↓reduceIte, Nat.reduceEqDiff, reduceCtorEq, Nat.reduceAdd, e1, hxe]; with_reducible exact rfl)); (focus first | assumption | exact rfl))
      | ((with_reducible apply arun_guard); (focus exact rfl); (focus (simp only [go_sem, ↓reduceIte, Nat.reduceEqDiff, reduceCtorEq, Nat.reduceAdd, e1, hxe]; with_reducible exact rfl)); (focus intro hb); rotate_left; (focus intro hb); rotate_right))
    all_goals (simp only [go_sem, ↓reduceIte, Nat.reduceEqDiff, reduceCtorEq, Nat.reduceAdd]; refine hK1 _ ?_; clear hK1 K1)
    refine awp_block ?_
    refine awp_loop_st (ι := Nat × Nat) (fun p => [(3, vInt .i64 p.2), (4, vInt .u32 p.1)]) (fun _ => []) (fun p => p.1) (fun p => p.1 < 4294967296 ∧ p.2 + bl p.1 = bl n) (X, 32 * (A.length - 1)) ⟨by simp only; omega, by simp only; omega⟩ ?_ rfl ?_
    · simp [agree_cons, agree_nil, slook_cons, vInt]; omega
    rintro ⟨x, k⟩ ⟨h1, h2⟩
    simp only at h1 h2 ⊢
    have hkn : bl n ≤ 32 * A.length := by
      rw [ht]
      have := bl_le (n := X) (k := 32) (by omega)
      omega
    refine awp_seq_k fun K2 hK2 => ?_
    refine awp_seq_k fun K3 hK3 => ?_
    refine awp_region (Θ := Θ) (Γ := Γ) [3, 4, 21] ΘOK ΓOK rfl ?_
    repeat' (first
      | (with_reducible refine arun_nil ?_)
      | ((with_reducible apply arun_step); (focus exact rfl); (focus (simp (disch := first | assumption | (with_reducible exact okL_limbs _) | omega) only [go_sem, ↓reduceIte, Nat.reduceEqDiff, reduceCtorEq, Nat.reduceAdd]; with_reducible exact rfl)))
      | ((with_reducible apply arun_if); (focus exact rfl); (focus (simp (disch := first | assumption | (with_reducible exact okL_limbs _) | omega) only [go_sem, ↓reduceIte, Nat.reduceEqDiff, reduceCtorEq, Nat.reduceAdd]; with_reducible exact rfl)); (focus omega))
      | ((with_reducible apply arun_ifn); (focus exact rfl); (focus (simp (disch := first | assumption | (with_reducible exact okL_limbs _) | omega) only [go_sem, ↓reduceIte, Nat.reduceEqDiff, reduceCtorEq, Nat.reduceAdd]; with_reducible exact rfl)); (focus omega))
      | ((with_reducible apply arun_gyes); (focus exact rfl); (focus (simp only [go_sem, ↓reduceIte, Nat.reduceEqDiff, reduceCtorEq, Nat.reduceAdd]; with_reducible exact rfl)); (focus first | assumption | exact rfl))
      | ((with_reducible apply arun_gno); (focus exact rfl); (focus (simp only [go_sem, ↓reduceIte, Nat.reduceEqDiff, reduceCtorEq, Nat.reduceAdd]; with_reducible exact rfl)); (focus first | assumption | exact rfl))
      | ((with_reducible apply arun_guard); (focus exact rfl); (focus (simp only [go_sem, ↓reduceIte, Nat.reduceEqDiff, reduceCtorEq, Nat.reduceAdd]; with_reducible exact rfl)); (focus intro hb); rotate_left; (focus intro hb); rotate_right))
    all_goals (simp only [go_sem, ↓reduceIte, Nat.reduceEqDiff, reduceCtorEq, Nat.reduceAdd]; refine hK3 _ ?_; clear hK3 K3)
    apply awp_cond
    (focus (simp only [go_sem, ↓reduceIte, Nat.reduceEqDiff, reduceCtorEq, Nat.reduceAdd]; exact rfl))
    all_goals intro hc
    · have hx0 : x ≠ 0 := by simp at hc; omega
      clear hc
      rw [bl_pos hx0] at h2
      refine awp_skip ?_
      refine hK2 _ ?_; clear hK2 K2
      refine awp_seq_k fun K2 hK2 => ?_
      refine awp_block ?_
      refine awp_region (Θ := Θ) (Γ := Γ) [3, 4] ΘOK ΓOK rfl ?_
      repeat' (first
        | (with_reducible refine arun_nil ?_)
        | ((with_reducible apply arun_step); (focus exact rfl); (focus (simp (disch := first | assumption | (with_reducible exact okL_limbs _) | omega) only [go_sem, ↓reduceIte, Nat.reduceEqDiff, reduceCtorEq, Nat.reduceAdd]; with_reducible exact rfl)))
        | ((with_reducible apply arun_if); (focus exact rfl); (focus (simp (disch := first | assumption | (with_reducible exact okL_limbs _) | omega) only [go_sem, ↓reduceIte, Nat.reduceEqDiff, reduceCtorEq, Nat.reduceAdd]; with_reducible exact rfl)); (focus omega))
        | ((with_reducible apply arun_ifn); (focus exact rfl); (focus (simp (disch := first | assumption | (with_reducible exact okL_limbs _) | omega) only [go_sem, ↓reduceIte, Nat.reduceEqDiff, reduceCtorEq, Nat.reduceAdd]; with_reducible exact rfl)); (focus omega))
        | ((with_reducible apply arun_gyes); (focus exact rfl); (focus (simp only [go_sem, ↓reduceIte, Nat.reduceEqDiff, reduceCtorEq, Nat.reduceAdd]; with_reducible exact rfl)); (focus first | assumption | exact rfl))
        | ((with_reducible apply arun_gno); (focus exact rfl); (focus (simp only [go_sem, ↓reduceIte, Nat.reduceEqDiff, reduceCtorEq, Nat.reduceAdd]; with_reducible exact rfl)); (focus first | assumption | exact rfl))
        | ((with_reducible apply arun_guard); (focus exact rfl); (focus (simp only [go_sem, ↓reduceIte, Nat.reduceEqDiff, reduceCtorEq, Nat.reduceAdd]; with_reducible exact rfl)); (focus intro hb); rotate_left; (focus intro hb); rotate_right))
      all_goals (simp only [go_sem, ↓reduceIte, Nat.reduceEqDiff, reduceCtorEq, Nat.reduceAdd])
      refine hK2 _ ?_; clear hK2 K2
      refine awp_region (Θ := Θ) (Γ := Γ) [3, 4] ΘOK ΓOK rfl ?_
      repeat' (first
        | (with_reducible refine arun_nil ?_)
        | ((with_reducible apply arun_step); (focus exact rfl); (focus (simp (disch := first | assumption | (with_reducible exact okL_limbs _) | omega) only [go_sem, ↓reduceIte, Nat.reduceEqDiff, reduceCtorEq, Nat.reduceAdd]; with_reducible exact rfl)))
        | ((with_reducible apply arun_if); (focus exact rfl); (focus (simp (disch := first | assumption | (with_reducible exact okL_limbs _) | omega) only [go_sem, ↓reduceIte, Nat.reduceEqDiff, reduceCtorEq, Nat.reduceAdd]; with_reducible exact rfl)); (focus omega))
        | ((with_reducible apply arun_ifn); (focus exact rfl); (focus (simp (disch := first | assumption | (with_reducible exact okL_limbs _) | omega) only [go_sem, ↓reduceIte, Nat.reduceEqDiff, reduceCtorEq, Nat.reduceAdd]; with_reducible exact rfl)); (focus omega))
        | ((with_reducible apply arun_gyes); (focus exact rfl); (focus (simp only [go_sem, ↓reduceIte, Nat.reduceEqDiff, reduceCtorEq, Nat.reduceAdd]; with_reducible exact rfl)); (focus first | assumption | exact rfl))
        | ((with_reducible apply arun_gno); (focus exact rfl); (focus (simp only [go_sem, ↓reduceIte, Nat.reduceEqDiff, reduceCtorEq, Nat.reduceAdd]; with_reducible exact rfl)); (focus first | assumption | exact rfl))
        | ((with_reducible apply arun_guard); (focus exact rfl); (focus (simp only [go_sem, ↓reduceIte, Nat.reduceEqDiff, reduceCtorEq, Nat.reduceAdd]; with_reducible exact rfl)); (focus intro hb); rotate_left; (focus intro hb); rotate_right))
      all_goals (simp only [go_sem, ↓reduceIte, Nat.reduceEqDiff, reduceCtorEq, Nat.reduceAdd])
      refine ⟨(x / 2, k + 1), ⟨by simp only; omega, by simp only; omega⟩, ?_, by simp only; omega⟩
      first | (simp [agree_cons, agree_nil, slook_cons, vInt]; done) | (simp [agree_cons, agree_nil, slook_cons, vInt]; omega) | (simp [agree_cons, agree_nil, slook_cons, vInt]; grind)
    · have hx0 : x = 0 := by simp at hc; omega
      subst hx0
      rw [bl_zero, Nat.add_zero] at h2
      refine awp_exit ?_
      rw [if_pos rfl]
      refine hK _ ?_
      refine awp_seq_k fun K3 hK3 => ?_
      refine awp_region (Θ := Θ) (Γ := Γ) [2] ΘOK ΓOK rfl ?_
      repeat' (first
        | (with_reducible refine arun_nil ?_)
        | ((with_reducible apply arun_step); (focus exact rfl); (focus (simp (disch := first | assumption | (with_reducible exact okL_limbs _) | omega) only [go_sem, ↓reduceIte, Nat.reduceEqDiff, reduceCtorEq, Nat.reduceAdd]; with_reducible exact rfl)))
        | ((with_reducible apply arun_if); (focus exact rfl); (focus (simp (disch := first | assumption | (with_reducible exact okL_limbs _) | omega) only [go_sem, ↓reduceIte, Nat.reduceEqDiff, reduceCtorEq, Nat.reduceAdd]; with_reducible exact rfl)); (focus omega))
        | ((with_reducible apply arun_ifn); (focus exact rfl); (focus (simp (disch := first | assumption | (with_reducible exact okL_limbs _) | omega) only [go_sem, ↓reduceIte, Nat.reduceEqDiff, reduceCtorEq, Nat.reduceAdd]; with_reducible exact rfl)); (focus omega))
        | ((with_reducible apply arun_gyes); (focus exact rfl); (focus (simp only [go_sem, ↓reduceIte, Nat.reduceEqDiff, reduceCtorEq, Nat.reduceAdd]; with_reducible exact rfl)); (focus first | assumption | exact rfl))
        | ((with_reducible apply arun_gno); (focus exact rfl); (focus (simp only [go_sem, ↓reduceIte, Nat.reduceEqDiff, reduceCtorEq, Nat.reduceAdd]; with_reducible exact rfl)); (focus first | assumption | exact rfl))
        | ((with_reducible apply arun_guard); (focus exact rfl); (focus (simp only [go_sem, ↓reduceIte, Nat.reduceEqDiff, reduceCtorEq, Nat.reduceAdd]; with_reducible exact rfl)); (focus intro hb); rotate_left; (focus intro hb); rotate_right))
      all_goals (simp only [go_sem, ↓reduceIte, Nat.reduceEqDiff, reduceCtorEq, Nat.reduceAdd]; refine hK3 _ ?_; clear hK3 K3)
      refine awp_ret ?_
      simp only [go_sem, ↓reduceIte, Nat.reduceEqDiff, reduceCtorEq, Nat.reduceAdd, Res, h2]
end RBits

/-! ### math/bits.Len32, LeadingZeros32 -/
def blf : Nat → Nat → Nat
  | 0, _ => 0
  | k + 1, n => if n = 0 then 0 else blf k (n / 2) + 1
theorem blf_eq : ∀ (k n : Nat), n < 2 ^ k → blf k n = bl n
  | 0, n, h => by have : n = 0 := by simp at h; exact h
                  subst this; rw [bl_zero]; rfl
  | k + 1, n, h => by
    by_cases h0 : n = 0
    · subst h0; rw [bl_zero]; rfl
    · rw [bl_pos h0, blf, if_neg h0, blf_eq k (n / 2) (by rw [Nat.pow_succ] at h; omega)]
def tabB (s : ByteArray) : Bool := s.data.toList.map (·.toNat) == (List.range 256).map (blf 8)
theorem astep_tab {Γ : FuncId → Abs.Spec} {d : Nat} {t ty : TypeId} {x i : Operand} {pos : String} {af : Array Edge} {σ : St} {s : ByteArray} {k : Int} (hΘ : Θ t = .str) (hs : ev σ x = .val (.string s)) (htab : tabB s = true) (hi : ev σ i = .val (.int .u8 k)) (h0 : 0 ≤ k) (h1 : k < 256) :
    astep Θ Γ ⟨some d, .index t x i, ty, pos, af, none⟩ σ = some (σ.set (some d) (.val (.int .u8 (bl k.toNat : Int)))) := by
  have hl : s.data.toList.map (·.toNat) = (List.range 256).map (blf 8) := eq_of_beq htab
  have hsz : s.data.size = 256 := by
    have := congrArg List.length hl
    rw [List.length_map, List.length_map, List.length_range, Array.length_toList] at this
    exact this
  have hss : s.size = 256 := hsz
  have hk : k.toNat < 256 := by omega
  have hv : (s[k.toNat]'(by omega)).toNat = bl k.toNat := by
    have h2 := congrArg (fun l => l[k.toNat]?) hl
    simp only [List.getElem?_map, List.getElem?_range hk, Option.map_some, Array.getElem?_toList] at h2
    rw [Array.getElem?_eq_getElem (by omega), Option.map_some, blf_eq 8 _ (Nat.lt_of_lt_of_le hk (by decide))] at h2
    exact Option.some.inj h2
  simp only [astep, hΘ, hs, hi, intOf?]
  rw [dif_pos ⟨h0, by omega⟩, hv]
  rfl
end Go.Proofs
