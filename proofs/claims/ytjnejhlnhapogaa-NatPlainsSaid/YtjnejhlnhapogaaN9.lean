/- Contracts of functions that the law reaches: what they compute. -/
import Derived.Test.YtjnejhlnhapogaaN8
namespace Go.Proofs
open Go.Abs Go.NatMath
set_option linter.unusedVariables false
set_option linter.unusedSimpArgs false

namespace Same22
def Γ : FuncId → Abs.Spec
  | 54 => .pure spSame
  | _ => .none
theorem ΓOK : ∀ f, SpecOK Try.prog f (Γ f) := by
  intro f
  unfold Γ
  split
  · exact ⟨⟨_, Try.func54, by decide +kernel, rfl⟩, Same.ok⟩
  · trivial
attribute [local go_sem] Γ
theorem ok : PureOK Try.prog 22 spSame := by
  refine pure_of_awp (n := 8) [4] Try.func22 rfl rfl rfl ?_
  intro M0 w0 args r h
  obtain ⟨L, M, rfl, hL, hLl, hM, hMl, hr⟩ := sp2_some h
  cases hr
  clear h
  refine ⟨by simp, ?_⟩
  refine awp_seq_k fun K hK => ?_
  refine awp_region (Θ := Θ) (Γ := Γ) [0, 1] ΘOK ΓOK rfl ?_
  repeat' (first
    | (with_reducible refine arun_nil ?_)
    | ((with_reducible apply arun_step); (focus exact rfl); (focus (simp (disch := first | assumption | omega) only [go_sem, ↓reduceIte, Nat.reduceEqDiff, reduceCtorEq, Nat.reduceAdd]; with_reducible exact rfl)))
    | ((with_reducible apply arun_if); (focus exact rfl); (focus (simp (disch := first | assumption | omega) only [go_sem, ↓reduceIte, Nat.reduceEqDiff, reduceCtorEq, Nat.reduceAdd]; with_reducible exact rfl)); (focus omega))
    | ((with_reducible apply arun_ifn); (focus exact rfl); (focus (simp (disch := first | assumption | omega) only [go_sem, ↓reduceIte, Nat.reduceEqDiff, reduceCtorEq, Nat.reduceAdd]; with_reducible exact rfl)); (focus omega))
    | ((with_reducible apply arun_gyes); (focus exact rfl); (focus (simp only [go_sem, ↓reduceIte, Nat.reduceEqDiff, reduceCtorEq, Nat.reduceAdd]; with_reducible exact rfl)); (focus first | assumption | exact rfl))
    | ((with_reducible apply arun_gno); (focus exact rfl); (focus (simp only [go_sem, ↓reduceIte, Nat.reduceEqDiff, reduceCtorEq, Nat.reduceAdd]; with_reducible exact rfl)); (focus first | assumption | exact rfl))
    | ((with_reducible apply arun_guard); (focus exact rfl); (focus (simp only [go_sem, ↓reduceIte, Nat.reduceEqDiff, reduceCtorEq, Nat.reduceAdd]; with_reducible exact rfl)); (focus intro hb); rotate_left; (focus intro hb); rotate_right))
  all_goals (simp only [go_sem, ↓reduceIte, Nat.reduceEqDiff, reduceCtorEq, Nat.reduceAdd]; refine hK _ ?_; clear hK K)
  refine awp_seq_k fun K hK => ?_
  refine awp_region (Θ := Θ) (Γ := Γ) [4] ΘOK ΓOK rfl ?_
  repeat' (first
    | (with_reducible refine arun_nil ?_)
    | ((with_reducible apply arun_step); (focus exact rfl); (focus (simp (disch := first | assumption | omega) only [go_sem, ↓reduceIte, Nat.reduceEqDiff, reduceCtorEq, Nat.reduceAdd]; with_reducible exact rfl)))
    | ((with_reducible apply arun_if); (focus exact rfl); (focus (simp (disch := first | assumption | omega) only [go_sem, ↓reduceIte, Nat.reduceEqDiff, reduceCtorEq, Nat.reduceAdd]; with_reducible exact rfl)); (focus omega))
    | ((with_reducible apply arun_ifn); (focus exact rfl); (focus (simp (disch := first | assumption | omega) only [go_sem, ↓reduceIte, Nat.reduceEqDiff, reduceCtorEq, Nat.reduceAdd]; with_reducible exact rfl)); (focus omega))
    | ((with_reducible apply arun_gyes); (focus exact rfl); (focus (simp only [go_sem, ↓reduceIte, Nat.reduceEqDiff, reduceCtorEq, Nat.reduceAdd]; with_reducible exact rfl)); (focus first | assumption | exact rfl))
    | ((with_reducible apply arun_gno); (focus exact rfl); (focus (simp only [go_sem, ↓reduceIte, Nat.reduceEqDiff, reduceCtorEq, Nat.reduceAdd]; with_reducible exact rfl)); (focus first | assumption | exact rfl))
    | ((with_reducible apply arun_guard); (focus exact rfl); (focus (simp only [go_sem, ↓reduceIte, Nat.reduceEqDiff, reduceCtorEq, Nat.reduceAdd]; with_reducible exact rfl)); (focus intro hb); rotate_left; (focus intro hb); rotate_right))
  all_goals (simp only [go_sem, ↓reduceIte, Nat.reduceEqDiff, reduceCtorEq, Nat.reduceAdd]; refine hK _ ?_; clear hK K)
  refine awp_ret ?_
  simp only [go_sem, ↓reduceIte, Nat.reduceEqDiff, reduceCtorEq, Nat.reduceAdd, Res]
end Same22

theorem beq_tf : (true == false) = false := rfl
theorem beq_ft : (false == true) = false := rfl
attribute [go_sem] beq_tf beq_ft beq_self_eq_true decide_true decide_false Bool.not_true Bool.not_false Int.reduceLE Int.reduceLT Int.reduceNeg Int.reduceSub ge_iff_le gt_iff_lt
theorem limbs_add_length {L M : List Int} (hL : okL L) (hM : okL M) {k : Nat} (h1 : L.length ≤ k) (h2 : M.length ≤ k) : (limbs (nv L + nv M)).length ≤ k + 1 := by
  refine limbs_length_le ?_
  have e1 := Nat.lt_of_lt_of_le (nv_lt hL) (Nat.pow_le_pow_right B_pos h1)
  have e2 := Nat.lt_of_lt_of_le (nv_lt hM) (Nat.pow_le_pow_right B_pos h2)
  rw [Nat.pow_succ]
  have : 0 < B ^ k := Nat.pow_pos B_pos
  have : B ^ k * 2 ≤ B ^ k * B := Nat.mul_le_mul_left _ (by decide)
  omega

/-! ### NatTakes -/
def spTrue2 : List AV → Option AV := sp2 100 fun _ _ => some (.val (.bool true))
namespace NatTakes
def Γ : FuncId → Abs.Spec
  | 21 => .pure spAwake
  | 43 => .pure spAdd
  | 44 => .pure spSub
  | 27 => .pure spCmp
  | 25 => .pure spPlain
  | 22 => .pure spSame
  | _ => .none
theorem ΓOK : ∀ f, SpecOK Try.prog f (Γ f) := by
  intro f
  unfold Γ
  split
  · exact ⟨⟨_, Try.func21, by decide +kernel, rfl⟩, Awake.ok⟩
  · exact ⟨⟨_, Try.func43, by decide +kernel, rfl⟩, Add.ok⟩
  · exact ⟨⟨_, Try.func44, by decide +kernel, rfl⟩, Sub.ok⟩
  · exact ⟨⟨_, Try.func27, by decide +kernel, rfl⟩, Cmp.ok⟩
  · exact ⟨⟨_, Try.func25, by decide +kernel, rfl⟩, Plain.ok⟩
  · exact ⟨⟨_, Try.func22, by decide +kernel, rfl⟩, Same22.ok⟩
  · trivial
attribute [local go_sem] Γ
theorem ok : PureOK Try.prog 15 spTrue2 := by
  refine pure_of_awp (n := 96) [4] Try.func15 rfl rfl rfl ?_
  intro M0 w0 args r h
  obtain ⟨L, M, rfl, hL, hLl, hM, hMl, hr⟩ := sp2_some h
  cases hr
  clear h
  refine ⟨by simp, ?_⟩
  have hA := okL_limbs (nv L)
  have hAl := limbs_length_nv hL
  have hC := okL_limbs (nv M)
  have hCl := limbs_length_nv hM
  have hS := okL_limbs (nv L + nv M)
  have hSl := limbs_add_length hL hM (k := 35184372088731) (by omega) (by omega)
  have hD := okL_limbs (nv L - nv M)
  have hDl := limbs_length_mono (show nv L - nv M ≤ nv L by omega)
  have hv := nv_limbs
  generalize hn : nv L = n at *
  generalize hm : nv M = m at *
  have f1 : n + m - m = n := by omega
  have f2 : decide (m ≤ n + m) = true := by simp
  refine awp_seq_k fun K hK => ?_
  refine awp_region (Θ := Θ) (Γ := Γ) [0, 1] ΘOK ΓOK rfl ?_
  repeat' (first
    | (with_reducible refine arun_nil ?_)
    | ((with_reducible apply arun_step); (focus exact rfl); (focus (simp (disch := first | assumption | omega) only [go_sem, ↓reduceIte, Nat.reduceEqDiff, reduceCtorEq, Nat.reduceAdd]; with_reducible exact rfl)))
    | ((with_reducible apply arun_if); (focus exact rfl); (focus (simp (disch := first | assumption | omega) only [go_sem, ↓reduceIte, Nat.reduceEqDiff, reduceCtorEq, Nat.reduceAdd]; with_reducible exact rfl)); (focus omega))
    | ((with_reducible apply arun_ifn); (focus exact rfl); (focus (simp (disch := first | assumption | omega) only [go_sem, ↓reduceIte, Nat.reduceEqDiff, reduceCtorEq, Nat.reduceAdd]; with_reducible exact rfl)); (focus omega))
    | ((with_reducible apply arun_gyes); (focus exact rfl); (focus (simp only [go_sem, ↓reduceIte, Nat.reduceEqDiff, reduceCtorEq, Nat.reduceAdd]; with_reducible exact rfl)); (focus first | assumption | exact rfl))
    | ((with_reducible apply arun_gno); (focus exact rfl); (focus (simp only [go_sem, ↓reduceIte, Nat.reduceEqDiff, reduceCtorEq, Nat.reduceAdd]; with_reducible exact rfl)); (focus first | assumption | exact rfl))
    | ((with_reducible apply arun_guard); (focus exact rfl); (focus (simp only [go_sem, ↓reduceIte, Nat.reduceEqDiff, reduceCtorEq, Nat.reduceAdd]; with_reducible exact rfl)); (focus intro hb); rotate_left; (focus intro hb); rotate_right))
  all_goals (simp only [go_sem, ↓reduceIte, Nat.reduceEqDiff, reduceCtorEq, Nat.reduceAdd]; refine hK _ ?_; clear hK K)
  refine awp_seq_k fun K hK => ?_
  refine awp_region (Θ := Θ) (Γ := Γ) [0, 1, 5] ΘOK ΓOK rfl ?_
  repeat' (first
    | (with_reducible refine arun_nil ?_)
    | ((with_reducible apply arun_step); (focus exact rfl); (focus (simp (disch := first | assumption | omega) only [go_sem, ↓reduceIte, Nat.reduceEqDiff, reduceCtorEq, Nat.reduceAdd]; with_reducible exact rfl)))
    | ((with_reducible apply arun_if); (focus exact rfl); (focus (simp (disch := first | assumption | omega) only [go_sem, ↓reduceIte, Nat.reduceEqDiff, reduceCtorEq, Nat.reduceAdd]; with_reducible exact rfl)); (focus omega))
    | ((with_reducible apply arun_ifn); (focus exact rfl); (focus (simp (disch := first | assumption | omega) only [go_sem, ↓reduceIte, Nat.reduceEqDiff, reduceCtorEq, Nat.reduceAdd]; with_reducible exact rfl)); (focus omega))
    | ((with_reducible apply arun_gyes); (focus exact rfl); (focus (simp only [go_sem, ↓reduceIte, Nat.reduceEqDiff, reduceCtorEq, Nat.reduceAdd]; with_reducible exact rfl)); (focus first | assumption | exact rfl))
    | ((with_reducible apply arun_gno); (focus exact rfl); (focus (simp only [go_sem, ↓reduceIte, Nat.reduceEqDiff, reduceCtorEq, Nat.reduceAdd]; with_reducible exact rfl)); (focus first | assumption | exact rfl))
    | ((with_reducible apply arun_guard); (focus exact rfl); (focus (simp only [go_sem, ↓reduceIte, Nat.reduceEqDiff, reduceCtorEq, Nat.reduceAdd]; with_reducible exact rfl)); (focus intro hb); rotate_left; (focus intro hb); rotate_right))
  all_goals (simp only [go_sem, ↓reduceIte, Nat.reduceEqDiff, reduceCtorEq, Nat.reduceAdd]; refine hK _ ?_; clear hK K)
  refine awp_seq_k fun K hK => ?_
  refine awp_seq_k fun K1 hK1 => ?_
  refine awp_region (Θ := Θ) (Γ := Γ) [0, 1, 5, 15] ΘOK ΓOK rfl ?_
  repeat' (first
    | (with_reducible refine arun_nil ?_)
    | ((with_reducible apply arun_step); (focus exact rfl); (focus (simp (disch := first | assumption | omega) only [go_sem, ↓reduceIte, Nat.reduceEqDiff, reduceCtorEq, Nat.reduceAdd]; with_reducible exact rfl)))
    | ((with_reducible apply arun_if); (focus exact rfl); (focus (simp (disch := first | assumption | omega) only [go_sem, ↓reduceIte, Nat.reduceEqDiff, reduceCtorEq, Nat.reduceAdd]; with_reducible exact rfl)); (focus omega))
    | ((with_reducible apply arun_ifn); (focus exact rfl); (focus (simp (disch := first | assumption | omega) only [go_sem, ↓reduceIte, Nat.reduceEqDiff, reduceCtorEq, Nat.reduceAdd]; with_reducible exact rfl)); (focus omega))
    | ((with_reducible apply arun_gyes); (focus exact rfl); (focus (simp only [go_sem, ↓reduceIte, Nat.reduceEqDiff, reduceCtorEq, Nat.reduceAdd]; with_reducible exact rfl)); (focus first | assumption | exact rfl))
    | ((with_reducible apply arun_gno); (focus exact rfl); (focus (simp only [go_sem, ↓reduceIte, Nat.reduceEqDiff, reduceCtorEq, Nat.reduceAdd]; with_reducible exact rfl)); (focus first | assumption | exact rfl))
    | ((with_reducible apply arun_guard); (focus exact rfl); (focus (simp only [go_sem, ↓reduceIte, Nat.reduceEqDiff, reduceCtorEq, Nat.reduceAdd]; with_reducible exact rfl)); (focus intro hb); rotate_left; (focus intro hb); rotate_right))
  all_goals (simp only [go_sem, ↓reduceIte, Nat.reduceEqDiff, reduceCtorEq, Nat.reduceAdd]; refine hK1 _ ?_; clear hK1 K1)
  apply awp_cond
  (focus (simp only [go_sem, ↓reduceIte, Nat.reduceEqDiff, reduceCtorEq, Nat.reduceAdd]; exact rfl))
  all_goals intro hc
  · cases hc
  · clear hc
    refine awp_skip ?_
    refine hK _ ?_; clear hK K
    refine awp_seq_k fun K hK => ?_
    refine awp_region (Θ := Θ) (Γ := Γ) [0, 1, 5, 6, 7] ΘOK ΓOK rfl ?_
    repeat' (first
      | (with_reducible refine arun_nil ?_)
      | ((with_reducible apply arun_step); (focus exact rfl); (focus (simp (disch := first | assumption | omega) only [go_sem, ↓reduceIte, Nat.reduceEqDiff, reduceCtorEq, Nat.reduceAdd, hv, hn, hm, f1, f2]; with_reducible exact rfl)))
      | ((with_reducible apply arun_if); (focus exact rfl); (focus (simp (disch := first | assumption | omega) only [go_sem, ↓reduceIte, Nat.reduceEqDiff, reduceCtorEq, Nat.reduceAdd, hv, hn, hm, f1, f2]; with_reducible exact rfl)); (focus omega))
      | ((with_reducible apply arun_ifn); (focus exact rfl); (focus (simp (disch := first | assumption | omega) only [go_sem, ↓reduceIte, Nat.reduceEqDiff, reduceCtorEq, Nat.reduceAdd, hv, hn, hm, f1, f2]; with_reducible exact rfl)); (focus omega))
      | ((with_reducible apply arun_gyes); (focus exact rfl); (focus (simp only [go_sem, ↓reduceIte, Nat.reduceEqDiff, reduceCtorEq, Nat.reduceAdd, hv, hn, hm, f1, f2]; with_reducible exact rfl)); (focus first | assumption | exact rfl))
      | ((with_reducible apply arun_gno); (focus exact rfl); (focus (simp only [go_sem, ↓reduceIte, Nat.reduceEqDiff, reduceCtorEq, Nat.reduceAdd, hv, hn, hm, f1, f2]; with_reducible exact rfl)); (focus first | assumption | exact rfl))
      | ((with_reducible apply arun_guard); (focus exact rfl); (focus (simp only [go_sem, ↓reduceIte, Nat.reduceEqDiff, reduceCtorEq, Nat.reduceAdd, hv, hn, hm, f1, f2]; with_reducible exact rfl)); (focus intro hb); rotate_left; (focus intro hb); rotate_right))
    all_goals (simp only [go_sem, ↓reduceIte, Nat.reduceEqDiff, reduceCtorEq, Nat.reduceAdd]; refine hK _ ?_; clear hK K)
    refine awp_seq_k fun K hK => ?_
    refine awp_region (Θ := Θ) (Γ := Γ) [0, 1, 5, 6, 7, 8, 9] ΘOK ΓOK rfl ?_
    repeat' (first
      | (with_reducible refine arun_nil ?_)
      | ((with_reducible apply arun_step); (focus exact rfl); (focus (simp (disch := first | assumption | omega) only [go_sem, ↓reduceIte, Nat.reduceEqDiff, reduceCtorEq, Nat.reduceAdd, hv, hn, hm, f1, f2]; with_reducible exact rfl)))
      | ((with_reducible apply arun_if); (focus exact rfl); (focus (simp (disch := first | assumption | omega) only [go_sem, ↓reduceIte, Nat.reduceEqDiff, reduceCtorEq, Nat.reduceAdd, hv, hn, hm, f1, f2]; with_reducible exact rfl)); (focus omega))
      | ((with_reducible apply arun_ifn); (focus exact rfl); (focus (simp (disch := first | assumption | omega) only [go_sem, ↓reduceIte, Nat.reduceEqDiff, reduceCtorEq, Nat.reduceAdd, hv, hn, hm, f1, f2]; with_reducible exact rfl)); (focus omega))
      | ((with_reducible apply arun_gyes); (focus exact rfl); (focus (simp only [go_sem, ↓reduceIte, Nat.reduceEqDiff, reduceCtorEq, Nat.reduceAdd, hv, hn, hm, f1, f2]; with_reducible exact rfl)); (focus first | assumption | exact rfl))
      | ((with_reducible apply arun_gno); (focus exact rfl); (focus (simp only [go_sem, ↓reduceIte, Nat.reduceEqDiff, reduceCtorEq, Nat.reduceAdd, hv, hn, hm, f1, f2]; with_reducible exact rfl)); (focus first | assumption | exact rfl))
      | ((with_reducible apply arun_guard); (focus exact rfl); (focus (simp only [go_sem, ↓reduceIte, Nat.reduceEqDiff, reduceCtorEq, Nat.reduceAdd, hv, hn, hm, f1, f2]; with_reducible exact rfl)); (focus intro hb); rotate_left; (focus intro hb); rotate_right))
    all_goals (simp only [go_sem, ↓reduceIte, Nat.reduceEqDiff, reduceCtorEq, Nat.reduceAdd]; refine hK _ ?_; clear hK K)
    refine awp_seq_k fun K hK => ?_
    refine awp_region (Θ := Θ) (Γ := Γ) [0, 1, 5, 6, 7, 8, 9, 10, 11] ΘOK ΓOK rfl ?_
    repeat' (first
      | (with_reducible refine arun_nil ?_)
      | ((with_reducible apply arun_step); (focus exact rfl); (focus (simp (disch := first | assumption | omega) only [go_sem, ↓reduceIte, Nat.reduceEqDiff, reduceCtorEq, Nat.reduceAdd, hv, hn, hm, f1, f2]; with_reducible exact rfl)))
      | ((with_reducible apply arun_if); (focus exact rfl); (focus (simp (disch := first | assumption | omega) only [go_sem, ↓reduceIte, Nat.reduceEqDiff, reduceCtorEq, Nat.reduceAdd, hv, hn, hm, f1, f2]; with_reducible exact rfl)); (focus omega))
      | ((with_reducible apply arun_ifn); (focus exact rfl); (focus (simp (disch := first | assumption | omega) only [go_sem, ↓reduceIte, Nat.reduceEqDiff, reduceCtorEq, Nat.reduceAdd, hv, hn, hm, f1, f2]; with_reducible exact rfl)); (focus omega))
      | ((with_reducible apply arun_gyes); (focus exact rfl); (focus (simp only [go_sem, ↓reduceIte, Nat.reduceEqDiff, reduceCtorEq, Nat.reduceAdd, hv, hn, hm, f1, f2]; with_reducible exact rfl)); (focus first | assumption | exact rfl))
      | ((with_reducible apply arun_gno); (focus exact rfl); (focus (simp only [go_sem, ↓reduceIte, Nat.reduceEqDiff, reduceCtorEq, Nat.reduceAdd, hv, hn, hm, f1, f2]; with_reducible exact rfl)); (focus first | assumption | exact rfl))
      | ((with_reducible apply arun_guard); (focus exact rfl); (focus (simp only [go_sem, ↓reduceIte, Nat.reduceEqDiff, reduceCtorEq, Nat.reduceAdd, hv, hn, hm, f1, f2]; with_reducible exact rfl)); (focus intro hb); rotate_left; (focus intro hb); rotate_right))
    all_goals (simp only [go_sem, ↓reduceIte, Nat.reduceEqDiff, reduceCtorEq, Nat.reduceAdd]; refine hK _ ?_; clear hK K)
    refine awp_seq_k fun K hK => ?_
    refine awp_region (Θ := Θ) (Γ := Γ) [0, 1, 5, 6, 7, 8, 9, 10, 11, 12] ΘOK ΓOK rfl ?_
    repeat' (first
      | (with_reducible refine arun_nil ?_)
      | ((with_reducible apply arun_step); (focus exact rfl); (focus (simp (disch := first | assumption | omega) only [go_sem, ↓reduceIte, Nat.reduceEqDiff, reduceCtorEq, Nat.reduceAdd, hv, hn, hm, f1, f2]; with_reducible exact rfl)))
      | ((with_reducible apply arun_if); (focus exact rfl); (focus (simp (disch := first | assumption | omega) only [go_sem, ↓reduceIte, Nat.reduceEqDiff, reduceCtorEq, Nat.reduceAdd, hv, hn, hm, f1, f2]; with_reducible exact rfl)); (focus omega))
      | ((with_reducible apply arun_ifn); (focus exact rfl); (focus (simp (disch := first | assumption | omega) only [go_sem, ↓reduceIte, Nat.reduceEqDiff, reduceCtorEq, Nat.reduceAdd, hv, hn, hm, f1, f2]; with_reducible exact rfl)); (focus omega))
      | ((with_reducible apply arun_gyes); (focus exact rfl); (focus (simp only [go_sem, ↓reduceIte, Nat.reduceEqDiff, reduceCtorEq, Nat.reduceAdd, hv, hn, hm, f1, f2]; with_reducible exact rfl)); (focus first | assumption | exact rfl))
      | ((with_reducible apply arun_gno); (focus exact rfl); (focus (simp only [go_sem, ↓reduceIte, Nat.reduceEqDiff, reduceCtorEq, Nat.reduceAdd, hv, hn, hm, f1, f2]; with_reducible exact rfl)); (focus first | assumption | exact rfl))
      | ((with_reducible apply arun_guard); (focus exact rfl); (focus (simp only [go_sem, ↓reduceIte, Nat.reduceEqDiff, reduceCtorEq, Nat.reduceAdd, hv, hn, hm, f1, f2]; with_reducible exact rfl)); (focus intro hb); rotate_left; (focus intro hb); rotate_right))
    all_goals (simp only [go_sem, ↓reduceIte, Nat.reduceEqDiff, reduceCtorEq, Nat.reduceAdd]; refine hK _ ?_; clear hK K)
    refine awp_seq_k fun K hK => ?_
    have hU : ∀ k, okL (limbs k) := okL_limbs
    rcases Nat.lt_trichotomy n m with hlt | heq | hgt
    · have g1 : decide (m ≤ n) = false := by simp; omega
      have g2 : decide (n ≤ m) = true := by simp; omega
      have g3 : cmpN n m = -1 := by unfold cmpN; rw [if_pos hlt]
      have g4 : cmpN m n = 1 := by unfold cmpN; rw [if_neg (by omega), if_pos hlt]
      refine awp_seq_k fun K1 hK1 => ?_
      refine awp_region (Θ := Θ) (Γ := Γ) [0, 1, 5, 8, 9, 10, 11, 12, 59] ΘOK ΓOK rfl ?_
      repeat' (first
        | (with_reducible refine arun_nil ?_)
        | ((with_reducible apply arun_step); (focus exact rfl); (focus (simp (disch := first | assumption | omega) only [go_sem, ↓reduceIte, Nat.reduceEqDiff, reduceCtorEq, Nat.reduceAdd, hv, hn, hm, f1, f2, g1, g2, g3, g4]; with_reducible exact rfl)))
        | ((with_reducible apply arun_if); (focus exact rfl); (focus (simp (disch := first | assumption | omega) only [go_sem, ↓reduceIte, Nat.reduceEqDiff, reduceCtorEq, Nat.reduceAdd, hv, hn, hm, f1, f2, g1, g2, g3, g4]; with_reducible exact rfl)); (focus omega))
        | ((with_reducible apply arun_ifn); (focus exact rfl); (focus (simp (disch := first | assumption | omega) only [go_sem, ↓reduceIte, Nat.reduceEqDiff, reduceCtorEq, Nat.reduceAdd, hv, hn, hm, f1, f2, g1, g2, g3, g4]; with_reducible exact rfl)); (focus omega))
        | ((with_reducible apply arun_gyes); (focus exact rfl); (focus (simp only [go_sem, ↓reduceIte, Nat.reduceEqDiff, reduceCtorEq, Nat.reduceAdd, hv, hn, hm, f1, f2, g1, g2, g3, g4]; with_reducible exact rfl)); (focus first | assumption | exact rfl))
        | ((with_reducible apply arun_gno); (focus exact rfl); (focus (simp only [go_sem, ↓reduceIte, Nat.reduceEqDiff, reduceCtorEq, Nat.reduceAdd, hv, hn, hm, f1, f2, g1, g2, g3, g4]; with_reducible exact rfl)); (focus first | assumption | exact rfl))
        | ((with_reducible apply arun_guard); (focus exact rfl); (focus (simp only [go_sem, ↓reduceIte, Nat.reduceEqDiff, reduceCtorEq, Nat.reduceAdd, hv, hn, hm, f1, f2, g1, g2, g3, g4]; with_reducible exact rfl)); (focus intro hb); rotate_left; (focus intro hb); rotate_right))
      all_goals (simp only [go_sem, ↓reduceIte, Nat.reduceEqDiff, reduceCtorEq, Nat.reduceAdd]; refine hK1 _ ?_; clear hK1 K1)
      apply awp_cond
      (focus (simp only [go_sem, ↓reduceIte, Nat.reduceEqDiff, reduceCtorEq, Nat.reduceAdd, hv, hn, hm, f1, f2, g1, g2, g3, g4]; exact rfl))
      all_goals intro hc
      · cases hc
      · clear hc
        refine awp_skip ?_
        refine hK _ ?_; clear hK K
        refine awp_seq_k fun K hK => ?_
        refine awp_seq_k fun K1 hK1 => ?_
        refine awp_region (Θ := Θ) (Γ := Γ) [0, 1, 5, 8, 9, 10, 11, 12, 63] ΘOK ΓOK rfl ?_
        repeat' (first
          | (with_reducible refine arun_nil ?_)
          | ((with_reducible apply arun_step); (focus exact rfl); (focus (simp (disch := first | assumption | omega) only [go_sem, ↓reduceIte, Nat.reduceEqDiff, reduceCtorEq, Nat.reduceAdd, hv, hn, hm, f1, f2, g1, g2, g3, g4]; with_reducible exact rfl)))
          | ((with_reducible apply arun_if); (focus exact rfl); (focus (simp (disch := first | assumption | omega) only [go_sem, ↓reduceIte, Nat.reduceEqDiff, reduceCtorEq, Nat.reduceAdd, hv, hn, hm, f1, f2, g1, g2, g3, g4]; with_reducible exact rfl)); (focus omega))
          | ((with_reducible apply arun_ifn); (focus exact rfl); (focus (simp (disch := first | assumption | omega) only [go_sem, ↓reduceIte, Nat.reduceEqDiff, reduceCtorEq, Nat.reduceAdd, hv, hn, hm, f1, f2, g1, g2, g3, g4]; with_reducible exact rfl)); (focus omega))
          | ((with_reducible apply arun_gyes); (focus exact rfl); (focus (simp only [go_sem, ↓reduceIte, Nat.reduceEqDiff, reduceCtorEq, Nat.reduceAdd, hv, hn, hm, f1, f2, g1, g2, g3, g4]; with_reducible exact rfl)); (focus first | assumption | exact rfl))
          | ((with_reducible apply arun_gno); (focus exact rfl); (focus (simp only [go_sem, ↓reduceIte, Nat.reduceEqDiff, reduceCtorEq, Nat.reduceAdd, hv, hn, hm, f1, f2, g1, g2, g3, g4]; with_reducible exact rfl)); (focus first | assumption | exact rfl))
          | ((with_reducible apply arun_guard); (focus exact rfl); (focus (simp only [go_sem, ↓reduceIte, Nat.reduceEqDiff, reduceCtorEq, Nat.reduceAdd, hv, hn, hm, f1, f2, g1, g2, g3, g4]; with_reducible exact rfl)); (focus intro hb); rotate_left; (focus intro hb); rotate_right))
        all_goals (simp only [go_sem, ↓reduceIte, Nat.reduceEqDiff, reduceCtorEq, Nat.reduceAdd]; refine hK1 _ ?_; clear hK1 K1)
        apply awp_cond
        (focus (simp only [go_sem, ↓reduceIte, Nat.reduceEqDiff, reduceCtorEq, Nat.reduceAdd, hv, hn, hm, f1, f2, g1, g2, g3, g4]; exact rfl))
        all_goals intro hc
        · cases hc
        · refine awp_skip ?_
          refine hK _ ?_; clear hK K
          refine awp_seq_k fun K hK => ?_
          refine awp_region (Θ := Θ) (Γ := Γ) [4] ΘOK ΓOK rfl ?_
          repeat' (first
            | (with_reducible refine arun_nil ?_)
            | ((with_reducible apply arun_step); (focus exact rfl); (focus (simp (disch := first | assumption | omega) only [go_sem, ↓reduceIte, Nat.reduceEqDiff, reduceCtorEq, Nat.reduceAdd, hv, hn, hm, f1, f2, g1, g2, g3, g4]; with_reducible exact rfl)))
            | ((with_reducible apply arun_if); (focus exact rfl); (focus (simp (disch := first | assumption | omega) only [go_sem, ↓reduceIte, Nat.reduceEqDiff, reduceCtorEq, Nat.reduceAdd, hv, hn, hm, f1, f2, g1, g2, g3, g4]; with_reducible exact rfl)); (focus omega))
            | ((with_reducible apply arun_ifn); (focus exact rfl); (focus (simp (disch := first | assumption | omega) only [go_sem, ↓reduceIte, Nat.reduceEqDiff, reduceCtorEq, Nat.reduceAdd, hv, hn, hm, f1, f2, g1, g2, g3, g4]; with_reducible exact rfl)); (focus omega))
            | ((with_reducible apply arun_gyes); (focus exact rfl); (focus (simp only [go_sem, ↓reduceIte, Nat.reduceEqDiff, reduceCtorEq, Nat.reduceAdd, hv, hn, hm, f1, f2, g1, g2, g3, g4]; with_reducible exact rfl)); (focus first | assumption | exact rfl))
            | ((with_reducible apply arun_gno); (focus exact rfl); (focus (simp only [go_sem, ↓reduceIte, Nat.reduceEqDiff, reduceCtorEq, Nat.reduceAdd, hv, hn, hm, f1, f2, g1, g2, g3, g4]; with_reducible exact rfl)); (focus first | assumption | exact rfl))
            | ((with_reducible apply arun_guard); (focus exact rfl); (focus (simp only [go_sem, ↓reduceIte, Nat.reduceEqDiff, reduceCtorEq, Nat.reduceAdd, hv, hn, hm, f1, f2, g1, g2, g3, g4]; with_reducible exact rfl)); (focus intro hb); rotate_left; (focus intro hb); rotate_right))
          all_goals (simp only [go_sem, ↓reduceIte, Nat.reduceEqDiff, reduceCtorEq, Nat.reduceAdd]; refine hK _ ?_; clear hK K)
          refine awp_ret ?_
          simp only [go_sem, ↓reduceIte, Nat.reduceEqDiff, reduceCtorEq, Nat.reduceAdd, hv, hn, hm, f1, f2, g1, g2, g3, g4, Res]
    · subst heq
      have g1 : decide (n ≤ n) = true := by simp
      have g3 : cmpN n n = 0 := by unfold cmpN; simp
      have g5 : n - n = 0 := by omega
      refine awp_seq_k fun K1 hK1 => ?_
      refine awp_region (Θ := Θ) (Γ := Γ) [0, 1, 5, 8, 9, 10, 11, 12, 59] ΘOK ΓOK rfl ?_
      repeat' (first
        | (with_reducible refine arun_nil ?_)
        | ((with_reducible apply arun_step); (focus exact rfl); (focus (simp (disch := first | assumption | omega) only [go_sem, ↓reduceIte, Nat.reduceEqDiff, reduceCtorEq, Nat.reduceAdd, hv, hn, hm, f1, f2, g1, g3, g5, limbs_zero, List.length_nil]; with_reducible exact rfl)))
        | ((with_reducible apply arun_if); (focus exact rfl); (focus (simp (disch := first | assumption | omega) only [go_sem, ↓reduceIte, Nat.reduceEqDiff, reduceCtorEq, Nat.reduceAdd, hv, hn, hm, f1, f2, g1, g3, g5, limbs_zero, List.length_nil]; with_reducible exact rfl)); (focus omega))
        | ((with_reducible apply arun_ifn); (focus exact rfl); (focus (simp (disch := first | assumption | omega) only [go_sem, ↓reduceIte, Nat.reduceEqDiff, reduceCtorEq, Nat.reduceAdd, hv, hn, hm, f1, f2, g1, g3, g5, limbs_zero, List.length_nil]; with_reducible exact rfl)); (focus omega))
        | ((with_reducible apply arun_gyes); (focus exact rfl); (focus (simp only [go_sem, ↓reduceIte, Nat.reduceEqDiff, reduceCtorEq, Nat.reduceAdd, hv, hn, hm, f1, f2, g1, g3, g5, limbs_zero, List.length_nil]; with_reducible exact rfl)); (focus first | assumption | exact rfl))
        | ((with_reducible apply arun_gno); (focus exact rfl); (focus (simp only [go_sem, ↓reduceIte, Nat.reduceEqDiff, reduceCtorEq, Nat.reduceAdd, hv, hn, hm, f1, f2, g1, g3, g5, limbs_zero, List.length_nil]; with_reducible exact rfl)); (focus first | assumption | exact rfl))
        | ((with_reducible apply arun_guard); (focus exact rfl); (focus (simp only [go_sem, ↓reduceIte, Nat.reduceEqDiff, reduceCtorEq, Nat.reduceAdd, hv, hn, hm, f1, f2, g1, g3, g5, limbs_zero, List.length_nil]; with_reducible exact rfl)); (focus intro hb); rotate_left; (focus intro hb); rotate_right))
      all_goals (simp only [go_sem, ↓reduceIte, Nat.reduceEqDiff, reduceCtorEq, Nat.reduceAdd]; refine hK1 _ ?_; clear hK1 K1)
      apply awp_cond
      (focus (simp only [go_sem, ↓reduceIte, Nat.reduceEqDiff, reduceCtorEq, Nat.reduceAdd, hv, hn, hm, f1, f2, g1, g3, g5, limbs_zero, List.length_nil]; exact rfl))
      all_goals intro hc
      · cases hc
      · clear hc
        refine awp_skip ?_
        refine hK _ ?_; clear hK K
        refine awp_seq_k fun K hK => ?_
        refine awp_seq_k fun K1 hK1 => ?_
        refine awp_region (Θ := Θ) (Γ := Γ) [0, 1, 5, 8, 9, 10, 11, 12, 63] ΘOK ΓOK rfl ?_
        repeat' (first
          | (with_reducible refine arun_nil ?_)
          | ((with_reducible apply arun_step); (focus exact rfl); (focus (simp (disch := first | assumption | omega) only [go_sem, ↓reduceIte, Nat.reduceEqDiff, reduceCtorEq, Nat.reduceAdd, hv, hn, hm, f1, f2, g1, g3, g5, limbs_zero, List.length_nil]; with_reducible exact rfl)))
          | ((with_reducible apply arun_if); (focus exact rfl); (focus (simp (disch := first | assumption | omega) only [go_sem, ↓reduceIte, Nat.reduceEqDiff, reduceCtorEq, Nat.reduceAdd, hv, hn, hm, f1, f2, g1, g3, g5, limbs_zero, List.length_nil]; with_reducible exact rfl)); (focus omega))
          | ((with_reducible apply arun_ifn); (focus exact rfl); (focus (simp (disch := first | assumption | omega) only [go_sem, ↓reduceIte, Nat.reduceEqDiff, reduceCtorEq, Nat.reduceAdd, hv, hn, hm, f1, f2, g1, g3, g5, limbs_zero, List.length_nil]; with_reducible exact rfl)); (focus omega))
          | ((with_reducible apply arun_gyes); (focus exact rfl); (focus (simp only [go_sem, ↓reduceIte, Nat.reduceEqDiff, reduceCtorEq, Nat.reduceAdd, hv, hn, hm, f1, f2, g1, g3, g5, limbs_zero, List.length_nil]; with_reducible exact rfl)); (focus first | assumption | exact rfl))
          | ((with_reducible apply arun_gno); (focus exact rfl); (focus (simp only [go_sem, ↓reduceIte, Nat.reduceEqDiff, reduceCtorEq, Nat.reduceAdd, hv, hn, hm, f1, f2, g1, g3, g5, limbs_zero, List.length_nil]; with_reducible exact rfl)); (focus first | assumption | exact rfl))
          | ((with_reducible apply arun_guard); (focus exact rfl); (focus (simp only [go_sem, ↓reduceIte, Nat.reduceEqDiff, reduceCtorEq, Nat.reduceAdd, hv, hn, hm, f1, f2, g1, g3, g5, limbs_zero, List.length_nil]; with_reducible exact rfl)); (focus intro hb); rotate_left; (focus intro hb); rotate_right))
        all_goals (simp only [go_sem, ↓reduceIte, Nat.reduceEqDiff, reduceCtorEq, Nat.reduceAdd]; refine hK1 _ ?_; clear hK1 K1)
        apply awp_cond
        (focus (simp only [go_sem, ↓reduceIte, Nat.reduceEqDiff, reduceCtorEq, Nat.reduceAdd, hv, hn, hm, f1, f2, g1, g3, g5, limbs_zero, List.length_nil]; exact rfl))
        all_goals intro hc
        ·
          refine awp_seq_k fun K1 hK1 => ?_
          refine awp_region (Θ := Θ) (Γ := Γ) [4] ΘOK ΓOK rfl ?_
          repeat' (first
            | (with_reducible refine arun_nil ?_)
            | ((with_reducible apply arun_step); (focus exact rfl); (focus (simp (disch := first | assumption | omega) only [go_sem, ↓reduceIte, Nat.reduceEqDiff, reduceCtorEq, Nat.reduceAdd, hv, hn, hm, f1, f2, g1, g3, g5, limbs_zero, List.length_nil]; with_reducible exact rfl)))
            | ((with_reducible apply arun_if); (focus exact rfl); (focus (simp (disch := first | assumption | omega) only [go_sem, ↓reduceIte, Nat.reduceEqDiff, reduceCtorEq, Nat.reduceAdd, hv, hn, hm, f1, f2, g1, g3, g5, limbs_zero, List.length_nil]; with_reducible exact rfl)); (focus omega))
            | ((with_reducible apply arun_ifn); (focus exact rfl); (focus (simp (disch := first | assumption | omega) only [go_sem, ↓reduceIte, Nat.reduceEqDiff, reduceCtorEq, Nat.reduceAdd, hv, hn, hm, f1, f2, g1, g3, g5, limbs_zero, List.length_nil]; with_reducible exact rfl)); (focus omega))
            | ((with_reducible apply arun_gyes); (focus exact rfl); (focus (simp only [go_sem, ↓reduceIte, Nat.reduceEqDiff, reduceCtorEq, Nat.reduceAdd, hv, hn, hm, f1, f2, g1, g3, g5, limbs_zero, List.length_nil]; with_reducible exact rfl)); (focus first | assumption | exact rfl))
            | ((with_reducible apply arun_gno); (focus exact rfl); (focus (simp only [go_sem, ↓reduceIte, Nat.reduceEqDiff, reduceCtorEq, Nat.reduceAdd, hv, hn, hm, f1, f2, g1, g3, g5, limbs_zero, List.length_nil]; with_reducible exact rfl)); (focus first | assumption | exact rfl))
            | ((with_reducible apply arun_guard); (focus exact rfl); (focus (simp only [go_sem, ↓reduceIte, Nat.reduceEqDiff, reduceCtorEq, Nat.reduceAdd, hv, hn, hm, f1, f2, g1, g3, g5, limbs_zero, List.length_nil]; with_reducible exact rfl)); (focus intro hb); rotate_left; (focus intro hb); rotate_right))
          all_goals (simp only [go_sem, ↓reduceIte, Nat.reduceEqDiff, reduceCtorEq, Nat.reduceAdd]; refine hK1 _ ?_; clear hK1 K1)
          refine awp_ret ?_
          simp only [go_sem, ↓reduceIte, Nat.reduceEqDiff, reduceCtorEq, Nat.reduceAdd, hv, hn, hm, f1, f2, g1, g3, g5, limbs_zero, List.length_nil, Res]
          rfl
        · cases hc
    · have g1 : decide (m ≤ n) = true := by simp; omega
      have g2 : decide (n ≤ m) = false := by simp; omega
      have g3 : cmpN n m = 1 := by unfold cmpN; rw [if_neg (by omega), if_pos hgt]
      have g4 : cmpN m n = -1 := by unfold cmpN; rw [if_pos hgt]
      have g5 : m + (n - m) = n := by omega
      refine awp_seq_k fun K1 hK1 => ?_
      refine awp_region (Θ := Θ) (Γ := Γ) [0, 1, 5, 8, 9, 10, 11, 12, 59] ΘOK ΓOK rfl ?_
      repeat' (first
        | (with_reducible refine arun_nil ?_)
        | ((with_reducible apply arun_step); (focus exact rfl); (focus (simp (disch := first | assumption | omega) only [go_sem, ↓reduceIte, Nat.reduceEqDiff, reduceCtorEq, Nat.reduceAdd, hv, hn, hm, f1, f2, g1, g2, g3, g4, g5]; with_reducible exact rfl)))
        | ((with_reducible apply arun_if); (focus exact rfl); (focus (simp (disch := first | assumption | omega) only [go_sem, ↓reduceIte, Nat.reduceEqDiff, reduceCtorEq, Nat.reduceAdd, hv, hn, hm, f1, f2, g1, g2, g3, g4, g5]; with_reducible exact rfl)); (focus omega))
        | ((with_reducible apply arun_ifn); (focus exact rfl); (focus (simp (disch := first | assumption | omega) only [go_sem, ↓reduceIte, Nat.reduceEqDiff, reduceCtorEq, Nat.reduceAdd, hv, hn, hm, f1, f2, g1, g2, g3, g4, g5]; with_reducible exact rfl)); (focus omega))
        | ((with_reducible apply arun_gyes); (focus exact rfl); (focus (simp only [go_sem, ↓reduceIte, Nat.reduceEqDiff, reduceCtorEq, Nat.reduceAdd, hv, hn, hm, f1, f2, g1, g2, g3, g4, g5]; with_reducible exact rfl)); (focus first | assumption | exact rfl))
        | ((with_reducible apply arun_gno); (focus exact rfl); (focus (simp only [go_sem, ↓reduceIte, Nat.reduceEqDiff, reduceCtorEq, Nat.reduceAdd, hv, hn, hm, f1, f2, g1, g2, g3, g4, g5]; with_reducible exact rfl)); (focus first | assumption | exact rfl))
        | ((with_reducible apply arun_guard); (focus exact rfl); (focus (simp only [go_sem, ↓reduceIte, Nat.reduceEqDiff, reduceCtorEq, Nat.reduceAdd, hv, hn, hm, f1, f2, g1, g2, g3, g4, g5]; with_reducible exact rfl)); (focus intro hb); rotate_left; (focus intro hb); rotate_right))
      all_goals (simp only [go_sem, ↓reduceIte, Nat.reduceEqDiff, reduceCtorEq, Nat.reduceAdd]; refine hK1 _ ?_; clear hK1 K1)
      apply awp_cond
      (focus (simp only [go_sem, ↓reduceIte, Nat.reduceEqDiff, reduceCtorEq, Nat.reduceAdd, hv, hn, hm, f1, f2, g1, g2, g3, g4, g5]; exact rfl))
      all_goals intro hc
      · cases hc
      · clear hc
        refine awp_skip ?_
        refine hK _ ?_; clear hK K
        refine awp_seq_k fun K hK => ?_
        refine awp_seq_k fun K1 hK1 => ?_
        refine awp_region (Θ := Θ) (Γ := Γ) [0, 1, 5, 8, 9, 10, 11, 12, 63] ΘOK ΓOK rfl ?_
        repeat' (first
          | (with_reducible refine arun_nil ?_)
          | ((with_reducible apply arun_step); (focus exact rfl); (focus (simp (disch := first | assumption | omega) only [go_sem, ↓reduceIte, Nat.reduceEqDiff, reduceCtorEq, Nat.reduceAdd, hv, hn, hm, f1, f2, g1, g2, g3, g4, g5]; with_reducible exact rfl)))
          | ((with_reducible apply arun_if); (focus exact rfl); (focus (simp (disch := first | assumption | omega) only [go_sem, ↓reduceIte, Nat.reduceEqDiff, reduceCtorEq, Nat.reduceAdd, hv, hn, hm, f1, f2, g1, g2, g3, g4, g5]; with_reducible exact rfl)); (focus omega))
          | ((with_reducible apply arun_ifn); (focus exact rfl); (focus (simp (disch := first | assumption | omega) only [go_sem, ↓reduceIte, Nat.reduceEqDiff, reduceCtorEq, Nat.reduceAdd, hv, hn, hm, f1, f2, g1, g2, g3, g4, g5]; with_reducible exact rfl)); (focus omega))
          | ((with_reducible apply arun_gyes); (focus exact rfl); (focus (simp only [go_sem, ↓reduceIte, Nat.reduceEqDiff, reduceCtorEq, Nat.reduceAdd, hv, hn, hm, f1, f2, g1, g2, g3, g4, g5]; with_reducible exact rfl)); (focus first | assumption | exact rfl))
          | ((with_reducible apply arun_gno); (focus exact rfl); (focus (simp only [go_sem, ↓reduceIte, Nat.reduceEqDiff, reduceCtorEq, Nat.reduceAdd, hv, hn, hm, f1, f2, g1, g2, g3, g4, g5]; with_reducible exact rfl)); (focus first | assumption | exact rfl))
          | ((with_reducible apply arun_guard); (focus exact rfl); (focus (simp only [go_sem, ↓reduceIte, Nat.reduceEqDiff, reduceCtorEq, Nat.reduceAdd, hv, hn, hm, f1, f2, g1, g2, g3, g4, g5]; with_reducible exact rfl)); (focus intro hb); rotate_left; (focus intro hb); rotate_right))
        all_goals (simp only [go_sem, ↓reduceIte, Nat.reduceEqDiff, reduceCtorEq, Nat.reduceAdd]; refine hK1 _ ?_; clear hK1 K1)
        apply awp_cond
        (focus (simp only [go_sem, ↓reduceIte, Nat.reduceEqDiff, reduceCtorEq, Nat.reduceAdd, hv, hn, hm, f1, f2, g1, g2, g3, g4, g5]; exact rfl))
        all_goals intro hc
        · cases hc
        · refine awp_skip ?_
          refine hK _ ?_; clear hK K
          refine awp_seq_k fun K hK => ?_
          refine awp_region (Θ := Θ) (Γ := Γ) [4] ΘOK ΓOK rfl ?_
          repeat' (first
            | (with_reducible refine arun_nil ?_)
            | ((with_reducible apply arun_step); (focus exact rfl); (focus (simp (disch := first | assumption | omega) only [go_sem, ↓reduceIte, Nat.reduceEqDiff, reduceCtorEq, Nat.reduceAdd, hv, hn, hm, f1, f2, g1, g2, g3, g4, g5]; with_reducible exact rfl)))
            | ((with_reducible apply arun_if); (focus exact rfl); (focus (simp (disch := first | assumption | omega) only [go_sem, ↓reduceIte, Nat.reduceEqDiff, reduceCtorEq, Nat.reduceAdd, hv, hn, hm, f1, f2, g1, g2, g3, g4, g5]; with_reducible exact rfl)); (focus omega))
            | ((with_reducible apply arun_ifn); (focus exact rfl); (focus (simp (disch := first | assumption | omega) only [go_sem, ↓reduceIte, Nat.reduceEqDiff, reduceCtorEq, Nat.reduceAdd, hv, hn, hm, f1, f2, g1, g2, g3, g4, g5]; with_reducible exact rfl)); (focus omega))
            | ((with_reducible apply arun_gyes); (focus exact rfl); (focus (simp only [go_sem, ↓reduceIte, Nat.reduceEqDiff, reduceCtorEq, Nat.reduceAdd, hv, hn, hm, f1, f2, g1, g2, g3, g4, g5]; with_reducible exact rfl)); (focus first | assumption | exact rfl))
            | ((with_reducible apply arun_gno); (focus exact rfl); (focus (simp only [go_sem, ↓reduceIte, Nat.reduceEqDiff, reduceCtorEq, Nat.reduceAdd, hv, hn, hm, f1, f2, g1, g2, g3, g4, g5]; with_reducible exact rfl)); (focus first | assumption | exact rfl))
            | ((with_reducible apply arun_guard); (focus exact rfl); (focus (simp only [go_sem, ↓reduceIte, Nat.reduceEqDiff, reduceCtorEq, Nat.reduceAdd, hv, hn, hm, f1, f2, g1, g2, g3, g4, g5]; with_reducible exact rfl)); (focus intro hb); rotate_left; (focus intro hb); rotate_right))
          all_goals (simp only [go_sem, ↓reduceIte, Nat.reduceEqDiff, reduceCtorEq, Nat.reduceAdd]; refine hK _ ?_; clear hK K)
          refine awp_ret ?_
          simp only [go_sem, ↓reduceIte, Nat.reduceEqDiff, reduceCtorEq, Nat.reduceAdd, hv, hn, hm, f1, f2, g1, g2, g3, g4, g5, Res]
end NatTakes
end Go.Proofs
