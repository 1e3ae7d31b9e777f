/- Limbs without regard to lengths. -/
import Derived.Test.YtjnejhlnhapogaaNatMath2
namespace Go.NatMath
set_option linter.unusedVariables false

theorem iv_take_lt {A : List Int} (hA : okL A) (j : Nat) : iv (A.take j) < W j := by
  induction j with
  | zero => simp [iv, nv, W]
  | succ j ih =>
    have hx := okL_get hA j
    have hw := W_pos j
    rw [iv_take_succ hA, W_succ]
    have : W j * A.getD j 0 ≤ W j * 4294967295 := Int.mul_le_mul_of_nonneg_left (by omega) (Int.le_of_lt hw)
    omega
theorem iv_take_diff {A C : List Int} (hA : okL A) (hC : okL C) {j : Nat} (h : ∀ k, j ≤ k → A.getD k 0 = C.getD k 0) (n : Nat) : iv (A.take (j + n)) - iv (C.take (j + n)) = iv (A.take j) - iv (C.take j) := by
  induction n with
  | zero => rfl
  | succ n ih =>
    rw [← Nat.add_assoc, iv_take_succ hA, iv_take_succ hC, h (j + n) (by omega)]
    omega
theorem iv_diff {A C : List Int} (hA : okL A) (hC : okL C) {j : Nat} (h : ∀ k, j ≤ k → A.getD k 0 = C.getD k 0) : iv A - iv C = iv (A.take j) - iv (C.take j) := by
  have := iv_take_diff hA hC h (A.length + C.length)
  rwa [iv_take_ge (by omega), iv_take_ge (by omega)] at this
theorem nv_eq_getD {A C : List Int} (hA : okL A) (hC : okL C) (h : ∀ k, A.getD k 0 = C.getD k 0) : nv A = nv C := by
  have := iv_diff hA hC (j := 0) (fun k _ => h k)
  simp only [List.take_zero, iv_nil] at this
  exact nv_eq_of_iv (by omega)
theorem nv_lt_at {A C : List Int} (hA : okL A) (hC : okL C) {j : Nat} (hs : ∀ k, j < k → A.getD k 0 = C.getD k 0) (h : A.getD j 0 < C.getD j 0) : nv A < nv C := by
  have e := iv_diff hA hC (j := j + 1) (fun k hk => hs k hk)
  rw [iv_take_succ hA, iv_take_succ hC] at e
  have h1 := iv_take_lt hA j
  have h2 := iv_nonneg (C.take j)
  have h3 : W j * (A.getD j 0 + 1) ≤ W j * C.getD j 0 := Int.mul_le_mul_of_nonneg_left (by omega) (Int.le_of_lt (W_pos j))
  rw [Int.mul_add, Int.mul_one] at h3
  have h4 : iv A < iv C := by omega
  unfold iv at h4
  omega
/-- What is below W n has no limbs from n on. -/
theorem iv_take_of_lt {C : List Int} (hC : okL C) {n : Nat} (h : iv C < W n) : iv (C.take n) = iv C := by
  rcases Nat.lt_or_ge n C.length with hn | hn
  · have e := iv_append (C.take n) (C.drop n)
    rw [List.take_append_drop, List.length_take, Nat.min_eq_left (by omega)] at e
    have h1 := iv_nonneg (C.take n)
    have h2 := iv_nonneg (C.drop n)
    rcases (show iv (C.drop n) = 0 ∨ 1 ≤ iv (C.drop n) by omega) with h3 | h3
    · rw [h3, Int.mul_zero] at e; omega
    · have : W n * 1 ≤ W n * iv (C.drop n) := Int.mul_le_mul_of_nonneg_left h3 (Int.le_of_lt (W_pos n))
      omega
  · exact iv_take_ge hn
end Go.NatMath
