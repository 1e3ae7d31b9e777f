/- Contracts of functions that the law reaches: what they compute. No condition. -/
import Derived.Test.YtjnejhlnhapogaaT8
set_option linter.unusedVariables false
set_option linter.unusedSimpArgs false
namespace Go.Proofs
open Go.Abs Go.NatMath
set_option linter.unusedVariables false
set_option linter.unusedSimpArgs false

namespace Long
attribute [local go_sem] fUp
def Γ : FuncId → Abs.Spec
  | 47 => .pure spTrim
  | 57 => .pure spLZ32
  | 58 => .owned (spOwn 48 .u32 fUp)
  | 59 => .pure spDown
  | 61 => .inpl spLess
  | 62 => .inpl spBack
  | _ => .none
theorem ΓOK : ∀ f, SpecOK Try.prog f (Γ f) := by
  intro f
  unfold Γ
  split
  · exact ⟨⟨_, Try.func47, by decide +kernel, rfl⟩, Trim.ok⟩
  · exact ⟨⟨_, Try.func57, by decide +kernel, rfl⟩, LZ32.ok⟩
  · exact ⟨⟨_, Try.func58, by decide +kernel, rfl⟩, Up.owned⟩
  · exact ⟨⟨_, Try.func59, by decide +kernel, rfl⟩, Down.ok⟩
  · exact ⟨⟨_, Try.func61, by decide +kernel, rfl⟩, Less.ok⟩
  · exact ⟨⟨_, Try.func62, by decide +kernel, rfl⟩, Back.ok⟩
  · trivial
attribute [local go_sem] Γ
set_option maxHeartbeats 4000000 in
theorem ok : PureOK Try.prog 50 spLong := by
  refine pure_of_awp (n := 142) [4, 5] Try.func50 rfl rfl rfl ?_
  intro M0 w0 args r h
  obtain ⟨L, M, rfl, hL, hLl, hM, hMl, hr⟩ := sp2_some h
  split at hr
  case isFalse => cases hr
  rename_i hcnd
  obtain ⟨hLp, hMp, hM2, hle⟩ := hcnd
  cases hr
  clear h
  refine ⟨by simp, ?_⟩
  generalize ha : nv L = a at *
  generalize hb : nv M = b at *
  obtain ⟨m, hm⟩ : ∃ m, M.length = m + 2 := ⟨M.length - 2, by omega⟩
  obtain ⟨n, hn, hn2, hDl, hDt⟩ := norm_facts (b := b) (m := m + 1) (by rw [hMp]; exact hm)
  obtain ⟨hlam, hst⟩ := long_start (n := n) (a := a) (b := b) (la := L.length) (m := m + 1) (by rw [hLp]) (by rw [hMp]; exact hm) hle
  rw [hMp] at hn2
  have e1 : ((M.length : Int) - 1).toNat = m + 1 := by omega
  have hx := okL_get hM (m + 1)
  generalize hxe : M.getD (m + 1) 0 = x at *
  refine awp_seq_k fun K0 hK0 => ?_
  refine awp_region (Θ := Θ) (Γ := Γ) [0, 1] ΘOK ΓOK rfl ?_
  repeat' (first
    | (with_reducible refine arun_nil ?_)
    | ((with_reducible apply arun_any); (focus exact rfl); (focus (simp (disch := first | assumption | (with_reducible exact okL_limbs _) | omega) only [go_sem, ↓reduceIte, Nat.reduceEqDiff, reduceCtorEq, Nat.reduceAdd]; with_reducible exact rfl)); with_reducible (first | refine okk_some ?_ | (refine okk_ite ?_ ?_; (focus omega)) | (refine okk_ifn ?_ ?_; (focus omega)))))
  all_goals (simp only [go_sem, ↓reduceIte, Nat.reduceEqDiff, reduceCtorEq, Nat.reduceAdd]; refine hK0 _ ?_; clear hK0 K0)
  refine awp_scope ?_
  refine awp_seq_k fun K0 hK0 => ?_
  refine awp_region (Θ := Θ) (Γ := Γ) [0, 1, 6] ΘOK ΓOK rfl ?_
  repeat' (first
    | (with_reducible refine arun_nil ?_)
    | ((with_reducible apply arun_any); (focus exact rfl); (focus (simp (disch := first | assumption | (with_reducible exact okL_limbs _) | omega) only [go_sem, ↓reduceIte, Nat.reduceEqDiff, reduceCtorEq, Nat.reduceAdd, e1, hxe, hn2]; with_reducible exact rfl)); with_reducible (first | refine okk_some ?_ | (refine okk_ite ?_ ?_; (focus omega)) | (refine okk_ifn ?_ ?_; (focus omega)))))
  all_goals (simp only [go_sem, ↓reduceIte, Nat.reduceEqDiff, reduceCtorEq, Nat.reduceAdd]; refine hK0 _ ?_; clear hK0 K0)
  have hl1 := okL_lim (L.length + 1) (a * 2 ^ n)
  have hl2 := okL_lim (M.length + 1) (b * 2 ^ n)
  have hV : b * 2 ^ n < B ^ (M.length + 1) := by
    have := nv_lt (okL_limbs (b * 2 ^ n))
    rw [nv_limbs, hDl] at this
    exact Nat.lt_of_lt_of_le this (Nat.pow_le_pow_right B_pos (by omega))
  have hv2 := nv_lim _ _ hV
  have hl2l : (lim (M.length + 1) (b * 2 ^ n)).length ≤ 35184372088831 := by rw [lim_length]; omega
  have hA : a * 2 ^ n < B ^ (L.length + 1) := by
    have h1 := nv_lt hL
    rw [ha] at h1
    rw [Nat.pow_succ]
    refine Nat.mul_lt_mul_of_lt_of_le h1 ?_ B_pos
    have : 2 ^ n ≤ 2 ^ 32 := Nat.pow_le_pow_right (by decide) (by omega)
    unfold B
    omega
  have hv1 := nv_lim _ _ hA
  refine awp_seq_k fun K0 hK0 => ?_
  refine awp_region (Θ := Θ) (Γ := Γ) [1, 5, 6] ΘOK ΓOK rfl ?_
  repeat' (first
    | (with_reducible refine arun_nil ?_)
    | ((with_reducible apply arun_any); (focus exact rfl); (focus (simp (disch := first | assumption | (with_reducible exact okL_limbs _) | omega) only [go_sem, ↓reduceIte, Nat.reduceEqDiff, reduceCtorEq, Nat.reduceAdd, ha, hb, hv2, erase27]; with_reducible exact rfl)); with_reducible (first | refine okk_some ?_ | (refine okk_ite ?_ ?_; (focus omega)) | (refine okk_ifn ?_ ?_; (focus omega)))))
  all_goals (simp only [go_sem, ↓reduceIte, Nat.reduceEqDiff, reduceCtorEq, Nat.reduceAdd]; refine hK0 _ ?_; clear hK0 K0)
  have hD := okL_limbs (b * 2 ^ n)
  have hDv : iv (limbs (b * 2 ^ n)) = ((b * 2 ^ n : Nat) : Int) := by unfold iv; rw [nv_limbs]
  rw [← hDv] at hst
  generalize hDe : limbs (b * 2 ^ n) = D at *
  have hRv : iv (lim (L.length + 1) (a * 2 ^ n)) = ((a * 2 ^ n : Nat) : Int) := by unfold iv; rw [hv1]
  rw [← hRv] at hst
  have hRl := lim_length (L.length + 1) (a * 2 ^ n)
  generalize hR0 : lim (L.length + 1) (a * 2 ^ n) = R0 at *
  refine awp_seq_k fun K0 hK0 => ?_
  refine awp_region (Θ := Θ) (Γ := Γ) [1, 5, 6, 7] ΘOK ΓOK rfl ?_
  repeat' (first
    | (with_reducible refine arun_nil ?_)
    | ((with_reducible apply arun_any); (focus exact rfl); (focus (simp (disch := first | assumption | (with_reducible exact okL_limbs _) | omega) only [go_sem, ↓reduceIte, Nat.reduceEqDiff, reduceCtorEq, Nat.reduceAdd]; with_reducible exact rfl)); with_reducible (first | refine okk_some ?_ | (refine okk_ite ?_ ?_; (focus omega)) | (refine okk_ifn ?_ ?_; (focus omega)))))
  all_goals (simp only [go_sem, ↓reduceIte, Nat.reduceEqDiff, reduceCtorEq, Nat.reduceAdd]; refine hK0 _ ?_; clear hK0 K0)
  have elq : ((R0.length : Int) - (D.length : Int)).toNat = L.length - (m + 1) := by omega
  refine awp_seq_k fun K0 hK0 => ?_
  refine awp_region (Θ := Θ) (Γ := Γ) [1, 4, 5, 6, 7] ΘOK ΓOK rfl ?_
  repeat' (first
    | (with_reducible refine arun_nil ?_)
    | ((with_reducible apply arun_any); (focus exact rfl); (focus (simp (disch := first | assumption | (with_reducible exact okL_limbs _) | omega) only [go_sem, ↓reduceIte, Nat.reduceEqDiff, reduceCtorEq, Nat.reduceAdd]; with_reducible exact rfl)); with_reducible (first | refine okk_some ?_ | (refine okk_ite ?_ ?_; (focus omega)) | (refine okk_ifn ?_ ?_; (focus omega)))))
  all_goals (simp only [go_sem, ↓reduceIte, Nat.reduceEqDiff, reduceCtorEq, Nat.reduceAdd]; refine hK0 _ ?_; clear hK0 K0)
  rw [elq]
  have htop := okL_get hD (m + 1)
  have hnext := okL_get hD m
  have hVle := iv_lt hD
  rw [hDl] at hVle
  have hVW : iv D < W (m + 3) := by
    have e : W (m + 3) = W (m + 1 + 1) * 4294967296 := W_succ (m + 2)
    have := W_pos (m + 1 + 1)
    omega
  have hWV := Int.le_of_lt hVW
  have htt := top_two hD hDl
  have ei1 : ((D.length : Int) - 1).toNat = m + 1 := by omega
  have ei2 : ((D.length : Int) - 2).toNat = m := by omega
  generalize htope : D.getD (m + 1) 0 = top at *
  generalize hnexte : D.getD m 0 = next at *
  refine awp_seq_k fun K0 hK0 => ?_
  refine awp_draw (Θ := Θ) (Γ := Γ) [1, 4, 5, 6, 7, 8, 9] ΘOK ΓOK mixed rfl (by decide +kernel) ?_
  repeat' (first
    | (with_reducible refine arunD_nil ?_)
    | ((with_reducible apply arunD_step); (focus (simp (disch := first | assumption | (with_reducible exact okL_limbs _) | omega) only [go_sem, ↓reduceIte, Nat.reduceEqDiff, reduceCtorEq, Nat.reduceAdd, ei1, ei2, htope, hnexte]; with_reducible exact rfl)))
    | ((with_reducible apply arunD_if); (focus (simp (disch := first | assumption | (with_reducible exact okL_limbs _) | omega) only [go_sem, ↓reduceIte, Nat.reduceEqDiff, reduceCtorEq, Nat.reduceAdd, ei1, ei2, htope, hnexte]; with_reducible exact rfl)); (focus omega))
    | ((with_reducible apply arunD_ifn); (focus (simp (disch := first | assumption | (with_reducible exact okL_limbs _) | omega) only [go_sem, ↓reduceIte, Nat.reduceEqDiff, reduceCtorEq, Nat.reduceAdd, ei1, ei2, htope, hnexte]; with_reducible exact rfl)); (focus omega)))
  all_goals (simp only [go_sem, ↓reduceIte, Nat.reduceEqDiff, reduceCtorEq, Nat.reduceAdd])
  refine hK0 _ ?_; clear hK0 K0
  refine awp_seq_k fun K0 hK0 => ?_
  refine awp_label ?_
  refine hK0 _ ?_; clear hK0 K0
  refine awp_seq_k fun K0 hK0 => ?_
  refine awp_seq_k fun K1 hK1 => ?_
  refine awp_region (Θ := Θ) (Γ := Γ) [1, 4, 5, 6, 7, 8, 9, 49, 50] ΘOK ΓOK rfl ?_
  repeat' (first
    | (with_reducible refine arun_nil ?_)
    | ((with_reducible apply arun_any); (focus exact rfl); (focus (simp (disch := first | assumption | (with_reducible exact okL_limbs _) | omega) only [go_sem, ↓reduceIte, Nat.reduceEqDiff, reduceCtorEq, Nat.reduceAdd]; with_reducible exact rfl)); with_reducible (first | refine okk_some ?_ | (refine okk_ite ?_ ?_; (focus omega)) | (refine okk_ifn ?_ ?_; (focus omega)))))
  all_goals (simp only [go_sem, ↓reduceIte, Nat.reduceEqDiff, reduceCtorEq, Nat.reduceAdd]; refine hK1 _ ?_; clear hK1 K1)
  generalize hlq : L.length - (m + 1) = lq at *
  refine awp_block ?_   -- 0
  refine awp_loop_st (ι := Nat × List Int × List Int) (fun p => [(1, .lst (ints .u32 D)), (4, .own 35), (5, .own 24), (6, vInt .i64 n), (7, vInt .i64 D.length), (8, vInt .u64 top), (9, vInt .u64 next), (49, vInt .i64 lq), (50, vInt .i64 p.1)]) (fun p => [(24, ⟨48, 1, ints .u32 p.2.1, none⟩), (35, ⟨48, 1, ints .u32 p.2.2, none⟩)]) (fun p => lq - p.1)
    (fun p => p.1 ≤ lq ∧ okL p.2.1 ∧ p.2.1.length = L.length + 1 ∧ okL p.2.2 ∧ p.2.2.length = lq ∧ iv p.2.1 < iv D * W (lq - p.1) ∧ iv p.2.2 * iv D + iv p.2.1 = iv R0 ∧ ∀ t, t < lq - p.1 → p.2.2.getD t 0 = 0) (0, R0, List.replicate lq 0)
    ⟨by simp, hl1, hRl, okL_replicate _, by simp, hst, by simp [iv, nv_replicate], fun t _ => getD_replicate _ _⟩ (by simp [agree_cons, agree_nil, slook_cons, vInt]) (by simp [ints]) ?_
  rintro ⟨i, R, Q⟩ ⟨h1, h2, h3, h4, h5, h6, h7, h8⟩
  simp only at h1 h2 h3 h4 h5 h6 h7 h8 ⊢
  clear hst hV hA hv1 hv2 hl2 hl2l hle hx hn2 e1
  refine awp_seq_k fun K1 hK1 => ?_
  refine awp_region (Θ := Θ) (Γ := Γ) [1, 4, 5, 6, 7, 8, 9, 49, 50, 51] ΘOK ΓOK rfl ?_
  repeat' (first
    | (with_reducible refine arun_nil ?_)
    | ((with_reducible apply arun_any); (focus exact rfl); (focus (simp (disch := first | assumption | (with_reducible exact okL_limbs _) | omega) only [go_sem, ↓reduceIte, Nat.reduceEqDiff, reduceCtorEq, Nat.reduceAdd]; with_reducible exact rfl)); with_reducible (first | refine okk_some ?_ | (refine okk_ite ?_ ?_; (focus omega)) | (refine okk_ifn ?_ ?_; (focus omega)))))
  all_goals (simp only [go_sem, ↓reduceIte, Nat.reduceEqDiff, reduceCtorEq, Nat.reduceAdd]; refine hK1 _ ?_; clear hK1 K1)
  refine awp_seq_k fun K1 hK1 => ?_
  apply awp_cond
  (focus (simp only [go_sem, ↓reduceIte, Nat.reduceEqDiff, reduceCtorEq, Nat.reduceAdd]; exact rfl))
  all_goals intro hc
  ·
    have hi : i < lq := by simp at hc; omega
    clear hc
    refine awp_skip ?_
    refine hK1 _ ?_; clear hK1 K1
    obtain ⟨k, hk⟩ : ∃ k, lq - i = k + 1 := ⟨lq - i - 1, by omega⟩
    have ek : (lq : Int) - 1 - (i : Int) = (k : Int) := by omega
    rw [hk] at h6 h8
    obtain ⟨X, A, Z, hRe, hXl, hAl, hd1, hd2, hd3⟩ := split3 (L := R) (off := k) (len := m + 3) (by omega)
    have hR2 := h2
    rw [hRe] at h6 h7 hR2
    have hXA := okL_append.1 hR2
    have hXok := (okL_append.1 hXA.1).1
    have hAok := (okL_append.1 hXA.1).2
    obtain ⟨hZ, hf, hP⟩ := part_facts hR2 hXl hAl (Int.le_of_lt hVle) h6
    have hg2 : R.getD (k + (m + 2)) 0 = A.getD (m + 2) 0 := by rw [hRe]; exact getD_mid hXl (by omega)
    have hg1 : R.getD (k + (m + 1)) 0 = A.getD (m + 1) 0 := by rw [hRe]; exact getD_mid hXl (by omega)
    have hg0 : R.getD (k + m) 0 = A.getD m 0 := by rw [hRe]; exact getD_mid hXl (by omega)
    have ha2 := okL_get hAok (m + 2)
    have ha1 := okL_get hAok (m + 1)
    have ha0 := okL_get hAok m
    have h3t := top_three hAok hAl
    generalize A.getD (m + 2) 0 = a2 at *
    generalize A.getD (m + 1) 0 = a1 at *
    generalize A.getD m 0 = r2 at *
    have hGs : Gs (iv A) (iv D) (W m) top next (a2 * 4294967296 + a1) r2 := ⟨W_pos m, ⟨hDt, htop.2⟩, hnext, ha0, by omega, htt.1, htt.2, h3t.1, h3t.2, hP⟩
    clear htt h3t hP
    have f2 : ((k : Int) + (D.length : Int)).toNat = k + (m + 2) := by omega
    have f1 : ((k : Int) + (D.length : Int) - 1).toNat = k + (m + 1) := by omega
    have f0 : ((k : Int) + (D.length : Int) - 2).toNat = k + m := by omega
    refine awp_seq_k fun K1 hK1 => ?_
    refine awp_block ?_   -- 1
    refine awp_seq_k fun K2 hK2 => ?_
    refine awp_region (Θ := Θ) (Γ := Γ) [1, 4, 5, 6, 7, 8, 9, 10, 49, 50] ΘOK ΓOK rfl ?_
    repeat' (first
      | (with_reducible refine arun_nil ?_)
      | ((with_reducible apply arun_any); (focus exact rfl); (focus (simp (disch := first | assumption | (with_reducible exact okL_limbs _) | omega) only [go_sem, ↓reduceIte, Nat.reduceEqDiff, reduceCtorEq, Nat.reduceAdd]; with_reducible exact rfl)); with_reducible (first | refine okk_some ?_ | (refine okk_ite ?_ ?_; (focus omega)) | (refine okk_ifn ?_ ?_; (focus omega)))))
    all_goals (simp only [go_sem, ↓reduceIte, Nat.reduceEqDiff, reduceCtorEq, Nat.reduceAdd]; refine hK2 _ ?_; clear hK2 K2)
    have hql : (Q.length : Int) = lq := by omega
    refine awp_seq_k fun K2 hK2 => ?_
    refine awp_region (Θ := Θ) (Γ := Γ) [1, 4, 5, 6, 7, 8, 9, 11, 49, 50] ΘOK ΓOK rfl ?_
    repeat' (first
      | (with_reducible refine arun_nil ?_)
      | ((with_reducible apply arun_any); (focus exact rfl); (focus (simp (disch := first | assumption | (with_reducible exact okL_limbs _) | omega) only [go_sem, ↓reduceIte, Nat.reduceEqDiff, reduceCtorEq, Nat.reduceAdd, hql, ek]; with_reducible exact rfl)); with_reducible (first | refine okk_some ?_ | (refine okk_ite ?_ ?_; (focus omega)) | (refine okk_ifn ?_ ?_; (focus omega)))))
    all_goals (simp only [go_sem, ↓reduceIte, Nat.reduceEqDiff, reduceCtorEq, Nat.reduceAdd]; refine hK2 _ ?_; clear hK2 K2)
    refine awp_seq_k fun K2 hK2 => ?_
    refine awp_draw (Θ := Θ) (Γ := Γ) [1, 4, 5, 6, 7, 8, 9, 11, 12, 49, 50] ΘOK ΓOK mixed rfl (by decide +kernel) ?_
    repeat' (first
      | (with_reducible refine arunD_nil ?_)
      | ((with_reducible apply arunD_step); (focus (simp (disch := first | assumption | (with_reducible exact okL_limbs _) | omega) only [go_sem, ↓reduceIte, Nat.reduceEqDiff, reduceCtorEq, Nat.reduceAdd, f2, f1, hg2, hg1]; with_reducible exact rfl)))
      | ((with_reducible apply arunD_if); (focus (simp (disch := first | assumption | (with_reducible exact okL_limbs _) | omega) only [go_sem, ↓reduceIte, Nat.reduceEqDiff, reduceCtorEq, Nat.reduceAdd, f2, f1, hg2, hg1]; with_reducible exact rfl)); (focus omega))
      | ((with_reducible apply arunD_ifn); (focus (simp (disch := first | assumption | (with_reducible exact okL_limbs _) | omega) only [go_sem, ↓reduceIte, Nat.reduceEqDiff, reduceCtorEq, Nat.reduceAdd, f2, f1, hg2, hg1]; with_reducible exact rfl)); (focus omega)))
    all_goals (simp only [go_sem, ↓reduceIte, Nat.reduceEqDiff, reduceCtorEq, Nat.reduceAdd])
    refine hK2 _ ?_; clear hK2 K2
    have htwo : 0 ≤ a2 * 4294967296 + a1 := hGs.htwo
    have htwo2 : a2 * 4294967296 + a1 < 18446744073709551616 := by omega
    generalize htwoe : a2 * 4294967296 + a1 = two at *
    have hq0 : 0 ≤ two / top := Int.ediv_nonneg htwo (by omega)
    have hq1 : two / top < 18446744073709551616 := Int.lt_of_le_of_lt (Int.ediv_le_self _ htwo) htwo2
    have hdm := Int.mul_ediv_add_emod two top
    have hm0 := Int.emod_nonneg two (show top ≠ 0 by omega)
    have hm1 := Int.emod_lt_of_pos two (show 0 < top by omega)
    refine awp_seq_k fun K2 hK2 => ?_
    refine awp_draw (Θ := Θ) (Γ := Γ) [1, 4, 5, 6, 7, 8, 9, 11, 13, 14, 49, 50] ΘOK ΓOK mixed rfl (by decide +kernel) ?_
    repeat' (first
      | (with_reducible refine arunD_nil ?_)
      | ((with_reducible apply arunD_step); (focus (simp (disch := first | assumption | (with_reducible exact okL_limbs _) | omega) only [go_sem, ↓reduceIte, Nat.reduceEqDiff, reduceCtorEq, Nat.reduceAdd]; with_reducible exact rfl)))
      | ((with_reducible apply arunD_if); (focus (simp (disch := first | assumption | (with_reducible exact okL_limbs _) | omega) only [go_sem, ↓reduceIte, Nat.reduceEqDiff, reduceCtorEq, Nat.reduceAdd]; with_reducible exact rfl)); (focus omega))
      | ((with_reducible apply arunD_ifn); (focus (simp (disch := first | assumption | (with_reducible exact okL_limbs _) | omega) only [go_sem, ↓reduceIte, Nat.reduceEqDiff, reduceCtorEq, Nat.reduceAdd]; with_reducible exact rfl)); (focus omega)))
    all_goals (simp only [go_sem, ↓reduceIte, Nat.reduceEqDiff, reduceCtorEq, Nat.reduceAdd])
    refine hK2 _ ?_; clear hK2 K2
    rw [Int.mul_comm] at hdm
    generalize two / top = g0 at *
    generalize two % top = rest0 at *
    have hin := hGs.init hq0 hdm hm0 hm1
    refine awp_seq_k fun K2 hK2 => ?_
    have fin2 : ∀ (g : Int) (σ : St), 0 ≤ g → g < 4294967296 → (g - 1) * iv D ≤ iv A → iv A < (g + 1) * iv D → agree [(1, .lst (ints .u32 D)), (4, .own 35), (5, .own 24), (6, vInt .i64 n), (7, vInt .i64 D.length), (8, vInt .u64 top), (9, vInt .u64 next), (11, vInt .i64 k), (13, vInt .u64 g), (49, vInt .i64 lq), (50, vInt .i64 i)] σ.t →
        σ.h = hlook [(24, ⟨48, 1, ints .u32 R, none⟩), (35, ⟨48, 1, ints .u32 Q, none⟩)] → K2 σ := by
      intro g σ hg0 hgb hlo hhi hag hh
      refine hK2 σ ?_
      refine awp_forget _ hag ?_
      rw [hh]
      clear hag hh σ hin hq0 hq1 hdm hm0 hm1 g0 rest0
      refine awp_seq_k fun K3 hK3 => ?_
      refine awp_seq_k fun K4 hK4 => ?_
      refine awp_region (Θ := Θ) (Γ := Γ) [1, 4, 5, 6, 7, 8, 9, 11, 13, 49, 50, 108] ΘOK ΓOK rfl ?_
      repeat' (first
        | (with_reducible refine arun_nil ?_)
        | ((with_reducible apply arun_any); (focus exact rfl); (focus (simp (disch := first | assumption | (with_reducible exact okL_limbs _) | omega) only [go_sem, ↓reduceIte, Nat.reduceEqDiff, reduceCtorEq, Nat.reduceAdd]; with_reducible exact rfl)); with_reducible (first | refine okk_some ?_ | (refine okk_ite ?_ ?_; (focus omega)) | (refine okk_ifn ?_ ?_; (focus omega)))))
      all_goals (simp only [go_sem, ↓reduceIte, Nat.reduceEqDiff, reduceCtorEq, Nat.reduceAdd]; refine hK4 _ ?_; clear hK4 K4)
      have fin3 : ∀ (g' : Int) (A' : List Int) (σ : St), 0 ≤ g' → g' < 4294967296 → A'.length = m + 3 → okL A' → iv A' = iv A - g' * iv D → iv A' < iv D → agree [(1, .lst (ints .u32 D)), (4, .own 35), (5, .own 24), (6, vInt .i64 n), (7, vInt .i64 D.length), (8, vInt .u64 top), (9, vInt .u64 next), (11, vInt .i64 k), (13, vInt .u64 g'), (49, vInt .i64 lq), (50, vInt .i64 i)] σ.t →
          σ.h = hlook [(24, ⟨48, 1, ints .u32 (X ++ A' ++ Z), none⟩), (35, ⟨48, 1, ints .u32 (Q.set k g'), none⟩)] → K1 σ := by
        intro g' A' σ q0 q1 q2 q3 q4 q5 hag hh
        obtain ⟨z1, z2⟩ := limb_done (X := X) (A := A) (A' := A') (Z := Z) (Q := Q) (k := k) (V := iv D) (N := iv R0) h4 (by omega) (h8 k (by omega)) ⟨q0, q1⟩ hAl q2 hXok hXl hf q4 q5 h7
        refine hK1 σ ?_
        refine awp_forget _ hag ?_
        rw [hh]
        refine awp_region (Θ := Θ) (Γ := Γ) [1, 4, 5, 6, 7, 8, 9, 49, 50] ΘOK ΓOK rfl ?_
        repeat' (first
          | (with_reducible refine arun_nil ?_)
          | ((with_reducible apply arun_any); (focus exact rfl); (focus (simp (disch := first | assumption | (with_reducible exact okL_limbs _) | omega) only [go_sem, ↓reduceIte, Nat.reduceEqDiff, reduceCtorEq, Nat.reduceAdd]; with_reducible exact rfl)); with_reducible (first | refine okk_some ?_ | (refine okk_ite ?_ ?_; (focus omega)) | (refine okk_ifn ?_ ?_; (focus omega)))))
        all_goals (simp only [go_sem, ↓reduceIte, Nat.reduceEqDiff, reduceCtorEq, Nat.reduceAdd])
        refine ⟨(i + 1, X ++ A' ++ Z, Q.set k g'), ⟨by simp only; omega, okL_append.2 ⟨okL_append.2 ⟨hXok, q3⟩, hXA.2⟩, ?_, okL_set h4 _ ⟨q0, q1⟩, by simpa using h5, ?_, z1, fun t ht => ?_⟩, ?_, rfl, by simp only; omega⟩
        ·
          rw [hRe] at h3
          simp only [List.length_append] at h3 ⊢
          omega
        ·
          simp only
          rw [show lq - (i + 1) = k by omega]
          exact z2
        ·
          simp only at ht ⊢
          rw [getD_set, if_neg (by omega)]
          exact h8 t (by omega)
        ·
          first | (simp [agree_cons, agree_nil, slook_cons, vInt]; done) | (simp [agree_cons, agree_nil, slook_cons, vInt]; omega) | (simp [agree_cons, agree_nil, slook_cons, vInt]; grind)
      apply awp_cond
      (focus (simp only [go_sem, ↓reduceIte, Nat.reduceEqDiff, reduceCtorEq, Nat.reduceAdd]; exact rfl))
      all_goals intro hc
      ·
        have hg : g = 0 := by simpa using hc
        subst hg
        refine awp_exit ?_   -- exit 1
        simp only [Nat.reduceEqDiff, ↓reduceIte]
        have hQs : Q.set k 0 = Q := by
          refine ext_getD (by simp) (fun t ht => ?_)
          rw [getD_set]
          split
          · rename_i hh; rw [hh.1]; exact (h8 k (by omega)).symm
          · rfl
        refine fin3 0 A _ (by omega) (by omega) hAl hAok (by omega) (by omega) ?_ (by rw [hQs, ← hRe])
        first | (simp [agree_cons, agree_nil, slook_cons, vInt]; done) | (simp [agree_cons, agree_nil, slook_cons, vInt]; omega) | (simp [agree_cons, agree_nil, slook_cons, vInt]; grind)
      ·
        have hg : g ≠ 0 := by simpa using hc
        clear hc
        refine awp_skip ?_
        refine hK3 _ ?_; clear hK3 K3
        refine awp_seq_k fun K3 hK3 => ?_
        have fin4 : ∀ (g' : Int) (A' : List Int) (σ : St), 0 ≤ g' → g' < 4294967296 → A'.length = m + 3 → okL A' → iv A' = iv A - g' * iv D → iv A' < iv D → agree [(1, .lst (ints .u32 D)), (4, .own 35), (5, .own 24), (6, vInt .i64 n), (7, vInt .i64 D.length), (8, vInt .u64 top), (9, vInt .u64 next), (11, vInt .i64 k), (13, vInt .u64 g'), (49, vInt .i64 lq), (50, vInt .i64 i)] σ.t →
            σ.h = hlook [(24, ⟨48, 1, ints .u32 (X ++ A' ++ Z), none⟩), (35, ⟨48, 1, ints .u32 Q, none⟩)] → K3 σ := by
          intro g' A' σ q0 q1 q2 q3 q4 q5 hag hh
          refine hK3 σ ?_
          refine awp_forget _ hag ?_
          rw [hh]
          have em : g' % 4294967296 = g' := by omega
          refine awp_region (Θ := Θ) (Γ := Γ) [1, 4, 5, 6, 7, 8, 9, 11, 13, 49, 50] ΘOK ΓOK rfl ?_
          repeat' (first
            | (with_reducible refine arun_nil ?_)
            | ((with_reducible apply arun_any); (focus exact rfl); (focus (simp (disch := first | assumption | (with_reducible exact okL_limbs _) | omega) only [go_sem, ↓reduceIte, Nat.reduceEqDiff, reduceCtorEq, Nat.reduceAdd, em]; with_reducible exact rfl)); with_reducible (first | refine okk_some ?_ | (refine okk_ite ?_ ?_; (focus omega)) | (refine okk_ifn ?_ ?_; (focus omega)))))
          all_goals (simp only [go_sem, ↓reduceIte, Nat.reduceEqDiff, reduceCtorEq, Nat.reduceAdd])
          refine fin3 g' A' _ q0 q1 q2 q3 q4 q5 ?_ rfl
          first | (simp [agree_cons, agree_nil, slook_cons, vInt]; done) | (simp [agree_cons, agree_nil, slook_cons, vInt]; omega) | (simp [agree_cons, agree_nil, slook_cons, vInt]; grind)
        have f5 : ((k : Int) + (D.length : Int) + 1 - (k : Int)).toNat = m + 3 := by omega
        have hRl2 : (R.length : Int) = L.length + 1 := by omega
        refine awp_seq_k fun K4 hK4 => ?_
        refine awp_region (Θ := Θ) (Γ := Γ) [1, 4, 5, 6, 7, 8, 9, 11, 13, 49, 50, 118] ΘOK ΓOK rfl ?_
        repeat' (first
          | (with_reducible refine arun_nil ?_)
          | ((with_reducible apply arun_any); (focus exact rfl); (focus (simp (disch := first | assumption | (with_reducible exact okL_limbs _) | omega) only [go_sem, ↓reduceIte, Nat.reduceEqDiff, reduceCtorEq, Nat.reduceAdd, f5, hd1, hd2, hd3]; with_reducible exact rfl)); with_reducible (first | refine okk_some ?_ | (refine okk_ite ?_ ?_; (focus omega)) | (refine okk_ifn ?_ ?_; (focus omega)))))
        all_goals (simp only [go_sem, ↓reduceIte, Nat.reduceEqDiff, reduceCtorEq, Nat.reduceAdd]; refine hK4 _ ?_; clear hK4 K4)
        have hgV : 0 ≤ g * iv D := Int.mul_nonneg hg0 (iv_nonneg D)
        rw [show min (m + 3) (R.length - k) = m + 3 by omega]
        have eg1 : (g - 1) * iv D = g * iv D - iv D := by rw [Int.sub_mul, Int.one_mul]
        have eg2 : (g + 1) * iv D = g * iv D + iv D := by rw [Int.add_mul, Int.one_mul]
        rw [eg1] at hlo
        rw [eg2] at hhi
        apply awp_cond
        (focus (simp only [go_sem, ↓reduceIte, Nat.reduceEqDiff, reduceCtorEq, Nat.reduceAdd]; exact rfl))
        all_goals intro hc
        ·
          have hlt : iv A < g * iv D := by simpa using hc
          clear hc
          have hbk := back_ok (A := A) (n := m + 3) (V := iv D) (g := g) (by omega) (by omega) hWV (by omega)
          have hS := okL_lim (m + 3) ((iv A - g * iv D) % W (m + 3)).toNat
          have hSl := lim_length (m + 3) ((iv A - g * iv D) % W (m + 3)).toNat
          generalize lim (m + 3) ((iv A - g * iv D) % W (m + 3)).toNat = S at *
          obtain ⟨s1, s2, s3⟩ := mid_facts (X := X) (S := S) (Z := Z) hXl hSl
          refine awp_seq_k fun K4 hK4 => ?_
          refine awp_region (Θ := Θ) (Γ := Γ) [1, 4, 5, 6, 7, 8, 9, 11, 13, 49, 50] ΘOK ΓOK rfl ?_
          repeat' (first
            | (with_reducible refine arun_nil ?_)
            | ((with_reducible apply arun_any); (focus exact rfl); (focus (simp (disch := first | assumption | (with_reducible exact okL_limbs _) | omega) only [go_sem, ↓reduceIte, Nat.reduceEqDiff, reduceCtorEq, Nat.reduceAdd]; with_reducible exact rfl)); with_reducible (first | refine okk_some ?_ | (refine okk_ite ?_ ?_; (focus omega)) | (refine okk_ifn ?_ ?_; (focus omega)))))
          all_goals (simp only [go_sem, ↓reduceIte, Nat.reduceEqDiff, reduceCtorEq, Nat.reduceAdd]; refine hK4 _ ?_; clear hK4 K4)
          have hXSZ : ((X ++ S ++ Z).length : Int) = L.length + 1 := by
            rw [hRe] at h3
            simp only [List.length_append] at h3 ⊢
            omega
          have hXSZ2 : X.length + S.length + Z.length = L.length + 1 := by
            rw [hRe] at h3
            simp only [List.length_append] at h3
            omega
          refine awp_region (Θ := Θ) (Γ := Γ) [1, 4, 5, 6, 7, 8, 9, 11, 13, 49, 50] ΘOK ΓOK rfl ?_
          repeat' (first
            | (with_reducible refine arun_nil ?_)
            | ((with_reducible apply arun_any); (focus exact rfl); (focus (simp (disch := first | assumption | (with_reducible exact okL_limbs _) | omega) only [go_sem, ↓reduceIte, Nat.reduceEqDiff, reduceCtorEq, Nat.reduceAdd, f5, s1, s2, s3]; with_reducible exact rfl)); with_reducible (first | refine okk_some ?_ | (refine okk_ite ?_ ?_; (focus omega)) | (refine okk_ifn ?_ ?_; (focus omega)))))
          all_goals (simp only [go_sem, ↓reduceIte, Nat.reduceEqDiff, reduceCtorEq, Nat.reduceAdd])
          rw [show min (m + 3) (X.length + S.length + Z.length - k) = m + 3 by omega]
          refine fin4 (g - 1) (lim (m + 3) ((iv S + iv D) % W (m + 3)).toNat) _ (by omega) (by omega) (lim_length _ _) (okL_lim _ _) (by rw [hbk, eg1]; omega) (by rw [hbk]; omega) ?_ rfl
          first | (simp [agree_cons, agree_nil, slook_cons, vInt]; done) | (simp [agree_cons, agree_nil, slook_cons, vInt]; omega) | (simp [agree_cons, agree_nil, slook_cons, vInt]; grind)
        ·
          have hge : g * iv D ≤ iv A := by simpa using hc
          clear hc
          refine awp_skip ?_
          have hlk := less_ok (A := A) (n := m + 3) (V := iv D) (g := g) hAl (by omega) hAok hgV
          refine fin4 g (lim (m + 3) ((iv A - g * iv D) % W (m + 3)).toNat) _ (by omega) (by omega) (lim_length _ _) (okL_lim _ _) hlk (by rw [hlk]; omega) ?_ rfl
          first | (simp [agree_cons, agree_nil, slook_cons, vInt]; done) | (simp [agree_cons, agree_nil, slook_cons, vInt]; omega) | (simp [agree_cons, agree_nil, slook_cons, vInt]; grind)
    refine awp_block ?_   -- 2
    refine awp_loop_st (ι := Int × Int) (fun p => [(1, .lst (ints .u32 D)), (4, .own 35), (5, .own 24), (6, vInt .i64 n), (7, vInt .i64 D.length), (8, vInt .u64 top), (9, vInt .u64 next), (11, vInt .i64 k), (13, vInt .u64 p.1), (14, vInt .u64 p.2), (49, vInt .i64 lq), (50, vInt .i64 i)]) (fun p => [(24, ⟨48, 1, ints .u32 R, none⟩), (35, ⟨48, 1, ints .u32 Q, none⟩)]) (fun p => p.1.toNat)
      (fun p => 0 ≤ p.1 ∧ (0 ≤ p.2 ∧ p.2 < 4294967296) ∧ p.1 * top + p.2 = two ∧ iv A < (p.1 + 1) * iv D) (g0, rest0)
      ⟨hq0, by simp only; omega, hdm, hin⟩ (by simp [agree_cons, agree_nil, slook_cons, vInt]) rfl ?_
    clear hin hq0 hq1 hdm hm0 hm1 g0 rest0
    rintro ⟨g, rest⟩ ⟨p1, p2, p3, p4⟩
    simp only at p1 p2 p3 p4 ⊢
    have hgle := hGs.le_base p3 p2.1
    refine awp_seq_k fun K3 hK3 => ?_
    have cont : iv A < g * iv D → 1 ≤ g → ∀ σ : St, agree [(1, .lst (ints .u32 D)), (4, .own 35), (5, .own 24), (6, vInt .i64 n), (7, vInt .i64 D.length), (8, vInt .u64 top), (9, vInt .u64 next), (11, vInt .i64 k), (13, vInt .u64 g), (14, vInt .u64 rest), (49, vInt .i64 lq), (50, vInt .i64 i)] σ.t →
        σ.h = hlook [(24, ⟨48, 1, ints .u32 R, none⟩), (35, ⟨48, 1, ints .u32 Q, none⟩)] → K3 σ := by
      intro hlt hg1' σ hag hh
      refine hK3 σ ?_
      refine awp_forget _ hag ?_
      rw [hh]
      have p3' : (g - 1) * top + (rest + top) = two := by rw [Int.sub_mul, Int.one_mul]; omega
      refine awp_block ?_   -- 3
      refine awp_seq_k fun K4 hK4 => ?_
      refine awp_region (Θ := Θ) (Γ := Γ) [1, 4, 5, 6, 7, 8, 9, 11, 13, 14, 49, 50] ΘOK ΓOK rfl ?_
      repeat' (first
        | (with_reducible refine arun_nil ?_)
        | ((with_reducible apply arun_any); (focus exact rfl); (focus (simp (disch := first | assumption | (with_reducible exact okL_limbs _) | omega) only [go_sem, ↓reduceIte, Nat.reduceEqDiff, reduceCtorEq, Nat.reduceAdd]; with_reducible exact rfl)); with_reducible (first | refine okk_some ?_ | (refine okk_ite ?_ ?_; (focus omega)) | (refine okk_ifn ?_ ?_; (focus omega)))))
      all_goals (simp only [go_sem, ↓reduceIte, Nat.reduceEqDiff, reduceCtorEq, Nat.reduceAdd]; refine hK4 _ ?_; clear hK4 K4)
      refine awp_seq_k fun K4 hK4 => ?_
      refine awp_region (Θ := Θ) (Γ := Γ) [1, 4, 5, 6, 7, 8, 9, 11, 13, 14, 49, 50] ΘOK ΓOK rfl ?_
      repeat' (first
        | (with_reducible refine arun_nil ?_)
        | ((with_reducible apply arun_any); (focus exact rfl); (focus (simp (disch := first | assumption | (with_reducible exact okL_limbs _) | omega) only [go_sem, ↓reduceIte, Nat.reduceEqDiff, reduceCtorEq, Nat.reduceAdd]; with_reducible exact rfl)); with_reducible (first | refine okk_some ?_ | (refine okk_ite ?_ ?_; (focus omega)) | (refine okk_ifn ?_ ?_; (focus omega)))))
      all_goals (simp only [go_sem, ↓reduceIte, Nat.reduceEqDiff, reduceCtorEq, Nat.reduceAdd]; refine hK4 _ ?_; clear hK4 K4)
      refine awp_seq_k fun K4 hK4 => ?_
      refine awp_region (Θ := Θ) (Γ := Γ) [1, 4, 5, 6, 7, 8, 9, 11, 13, 14, 49, 50, 106] ΘOK ΓOK rfl ?_
      repeat' (first
        | (with_reducible refine arun_nil ?_)
        | ((with_reducible apply arun_any); (focus exact rfl); (focus (simp (disch := first | assumption | (with_reducible exact okL_limbs _) | omega) only [go_sem, ↓reduceIte, Nat.reduceEqDiff, reduceCtorEq, Nat.reduceAdd]; with_reducible exact rfl)); with_reducible (first | refine okk_some ?_ | (refine okk_ite ?_ ?_; (focus omega)) | (refine okk_ifn ?_ ?_; (focus omega)))))
      all_goals (simp only [go_sem, ↓reduceIte, Nat.reduceEqDiff, reduceCtorEq, Nat.reduceAdd]; refine hK4 _ ?_; clear hK4 K4)
      apply awp_cond
      (focus (simp only [go_sem, ↓reduceIte, Nat.reduceEqDiff, reduceCtorEq, Nat.reduceAdd]; exact rfl))
      all_goals intro hc
      ·
        have hb : 4294967296 ≤ rest + top := by simpa using hc
        have hgb := hGs.lt_base p3' hb
        refine awp_exit ?_   -- exit 2
        simp only [Nat.reduceEqDiff, ↓reduceIte]
        refine fin2 (g - 1) _ (by omega) hgb (hGs.last (by omega) hgb (hGs.fits2 (by omega) hgb p3' hb)) (by rw [Int.sub_add_cancel]; exact hlt) ?_ rfl
        first | (simp [agree_cons, agree_nil, slook_cons, vInt]; done) | (simp [agree_cons, agree_nil, slook_cons, vInt]; omega) | (simp [agree_cons, agree_nil, slook_cons, vInt]; grind)
      ·
        have hb : rest + top < 4294967296 := by simpa using hc
        refine awp_skip ?_
        refine ⟨(g - 1, rest + top), ⟨by simp only; omega, by simp only; omega, p3', by simp only; rw [Int.sub_add_cancel]; exact hlt⟩, ?_, rfl, by simp only; omega⟩
        ·
          first | (simp [agree_cons, agree_nil, slook_cons, vInt]; done) | (simp [agree_cons, agree_nil, slook_cons, vInt]; omega) | (simp [agree_cons, agree_nil, slook_cons, vInt]; grind)
    by_cases hb : 4294967296 ≤ g
    ·
      have hd : decide (g ≥ 4294967296) = true := by simpa using hb
      refine awp_seq_k fun K4 hK4 => ?_
      refine awp_region (Θ := Θ) (Γ := Γ) [1, 4, 5, 6, 7, 8, 9, 11, 13, 14, 49, 50, 99] ΘOK ΓOK rfl ?_
      repeat' (first
        | (with_reducible refine arun_nil ?_)
        | ((with_reducible apply arun_any); (focus exact rfl); (focus (simp (disch := first | assumption | (with_reducible exact okL_limbs _) | omega) only [go_sem, ↓reduceIte, Nat.reduceEqDiff, reduceCtorEq, Nat.reduceAdd, hd]; with_reducible exact rfl)); with_reducible (first | refine okk_some ?_ | (refine okk_ite ?_ ?_; (focus omega)) | (refine okk_ifn ?_ ?_; (focus omega))))
        | ((with_reducible apply arun_gyes); (focus exact rfl); (focus (simp only [go_sem, ↓reduceIte, Nat.reduceEqDiff, reduceCtorEq, Nat.reduceAdd, hd]; with_reducible exact rfl)); (focus first | assumption | exact rfl))
        | ((with_reducible apply arun_gundef); (focus exact rfl); (focus (simp only [go_sem, ↓reduceIte, Nat.reduceEqDiff, reduceCtorEq, Nat.reduceAdd, hd]; done)))
        | ((with_reducible apply arun_gno); (focus exact rfl); (focus (simp only [go_sem, ↓reduceIte, Nat.reduceEqDiff, reduceCtorEq, Nat.reduceAdd, hd]; with_reducible exact rfl)); (focus first | assumption | exact rfl))
        | ((with_reducible apply arun_guard); (focus exact rfl); (focus (simp only [go_sem, ↓reduceIte, Nat.reduceEqDiff, reduceCtorEq, Nat.reduceAdd, hd]; with_reducible exact rfl)); (focus intro hb); rotate_left; (focus intro hb); rotate_right))
      all_goals (simp only [go_sem, ↓reduceIte, Nat.reduceEqDiff, reduceCtorEq, Nat.reduceAdd]; refine hK4 _ ?_; clear hK4 K4)
      apply awp_cond
      (focus (simp only [go_sem, ↓reduceIte, Nat.reduceEqDiff, reduceCtorEq, Nat.reduceAdd]; exact rfl))
      all_goals intro hc
      ·
        refine awp_skip ?_
        refine cont (hGs.dec1 hb) (by omega) _ ?_ rfl
        first | (simp [agree_cons, agree_nil, slook_cons, vInt]; done) | (simp [agree_cons, agree_nil, slook_cons, vInt]; omega) | (simp [agree_cons, agree_nil, slook_cons, vInt]; grind)
      · cases hc
    ·
      have hd : decide (g ≥ 4294967296) = false := by simp; omega
      have hgn := mul_bound (x := g) (y := next) ⟨p1, by omega⟩ hnext
      refine awp_seq_k fun K4 hK4 => ?_
      refine awp_region (Θ := Θ) (Γ := Γ) [1, 4, 5, 6, 7, 8, 9, 11, 13, 14, 49, 50, 99] ΘOK ΓOK rfl ?_
      repeat' (first
        | (with_reducible refine arun_nil ?_)
        | ((with_reducible apply arun_any); (focus exact rfl); (focus (simp (disch := first | assumption | (with_reducible exact okL_limbs _) | omega) only [go_sem, ↓reduceIte, Nat.reduceEqDiff, reduceCtorEq, Nat.reduceAdd, hd, f0, hg0]; with_reducible exact rfl)); with_reducible (first | refine okk_some ?_ | (refine okk_ite ?_ ?_; (focus omega)) | (refine okk_ifn ?_ ?_; (focus omega))))
        | ((with_reducible apply arun_gyes); (focus exact rfl); (focus (simp only [go_sem, ↓reduceIte, Nat.reduceEqDiff, reduceCtorEq, Nat.reduceAdd, hd, f0, hg0]; with_reducible exact rfl)); (focus first | assumption | exact rfl))
        | ((with_reducible apply arun_gundef); (focus exact rfl); (focus (simp only [go_sem, ↓reduceIte, Nat.reduceEqDiff, reduceCtorEq, Nat.reduceAdd, hd, f0, hg0]; done)))
        | ((with_reducible apply arun_gno); (focus exact rfl); (focus (simp only [go_sem, ↓reduceIte, Nat.reduceEqDiff, reduceCtorEq, Nat.reduceAdd, hd, f0, hg0]; with_reducible exact rfl)); (focus first | assumption | exact rfl))
        | ((with_reducible apply arun_guard); (focus exact rfl); (focus (simp only [go_sem, ↓reduceIte, Nat.reduceEqDiff, reduceCtorEq, Nat.reduceAdd, hd, f0, hg0]; with_reducible exact rfl)); (focus intro hb); rotate_left; (focus intro hb); rotate_right))
      all_goals (simp only [go_sem, ↓reduceIte, Nat.reduceEqDiff, reduceCtorEq, Nat.reduceAdd]; refine hK4 _ ?_; clear hK4 K4)
      apply awp_cond
      (focus (simp only [go_sem, ↓reduceIte, Nat.reduceEqDiff, reduceCtorEq, Nat.reduceAdd]; exact rfl))
      all_goals intro hc
      ·
        have hlt : rest * 4294967296 + r2 < g * next := by simpa using hc
        refine awp_skip ?_
        refine cont (hGs.dec2 p1 p3 hlt) ?_ _ ?_ rfl
        ·
          rcases (show g = 0 ∨ 1 ≤ g by omega) with h0 | h0
          · rw [h0, Int.zero_mul] at hlt; omega
          · exact h0
        ·
          first | (simp [agree_cons, agree_nil, slook_cons, vInt]; done) | (simp [agree_cons, agree_nil, slook_cons, vInt]; omega) | (simp [agree_cons, agree_nil, slook_cons, vInt]; grind)
      ·
        have hle2 : g * next ≤ rest * 4294967296 + r2 := by simpa using hc
        refine awp_exit ?_   -- exit 2
        simp only [Nat.reduceEqDiff, ↓reduceIte]
        refine fin2 g _ p1 (by omega) (hGs.last p1 (by omega) (Gs.fits1 p3 hle2)) p4 ?_ rfl
        first | (simp [agree_cons, agree_nil, slook_cons, vInt]; done) | (simp [agree_cons, agree_nil, slook_cons, vInt]; omega) | (simp [agree_cons, agree_nil, slook_cons, vInt]; grind)
  ·
    have hi : i = lq := by simp at hc; omega
    subst hi
    clear hc
    rw [Nat.sub_self, W_zero, Int.mul_one, hDv] at h6
    rw [hDv, hRv] at h7
    obtain ⟨y1, y2⟩ := long_end h7 h6
    refine awp_exit ?_   -- exit 0
    simp only [Nat.reduceEqDiff, ↓reduceIte]
    refine hK0 _ ?_; clear hK0 K0 hK1 K1
    have hT := okL_limbs (nv R)
    have hTl := limbs_length_nv h2
    have hTv := nv_limbs (nv R)
    refine awp_seq_k fun K0 hK0 => ?_
    refine awp_region (Θ := Θ) (Γ := Γ) [4, 5] ΘOK ΓOK rfl ?_
    repeat' (first
      | (with_reducible refine arun_nil ?_)
      | ((with_reducible apply arun_any); (focus exact rfl); (focus (simp (disch := first | assumption | (with_reducible exact okL_limbs _) | omega) only [go_sem, ↓reduceIte, Nat.reduceEqDiff, reduceCtorEq, Nat.reduceAdd, hTv]; with_reducible exact rfl)); with_reducible (first | refine okk_some ?_ | (refine okk_ite ?_ ?_; (focus omega)) | (refine okk_ifn ?_ ?_; (focus omega)))))
    all_goals (simp only [go_sem, ↓reduceIte, Nat.reduceEqDiff, reduceCtorEq, Nat.reduceAdd]; refine hK0 _ ?_; clear hK0 K0)
    refine awp_ret ?_
    simp only [go_sem, ↓reduceIte, Nat.reduceEqDiff, reduceCtorEq, Nat.reduceAdd, Res, y1, y2]
end Long
end Go.Proofs
