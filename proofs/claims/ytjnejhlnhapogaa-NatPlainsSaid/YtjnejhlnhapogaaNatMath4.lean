/- Binary digits. -/
import Derived.Test.YtjnejhlnhapogaaNatMath3
namespace Go.NatMath
set_option linter.unusedVariables false

/-- How many binary digits a number has. -/
def bl (n : Nat) : Nat := if n = 0 then 0 else bl (n / 2) + 1
termination_by n
decreasing_by exact Nat.div_lt_self (by omega) (by decide)
theorem bl_zero : bl 0 = 0 := by unfold bl; simp
theorem bl_pos {n : Nat} (h : n ≠ 0) : bl n = bl (n / 2) + 1 := by rw [bl]; simp [h]
theorem bl_eq_zero {n : Nat} : bl n = 0 ↔ n = 0 := by
  constructor
  · intro h
    by_cases h0 : n = 0
    · exact h0
    · rw [bl_pos h0] at h; omega
  · intro h; subst h; exact bl_zero
theorem bl_shift : ∀ (k : Nat) {n : Nat}, n / 2 ^ k ≠ 0 → bl n = bl (n / 2 ^ k) + k
  | 0, n, _ => by simp
  | k + 1, n, h => by
    have e : n / 2 ^ (k + 1) = n / 2 / 2 ^ k := by rw [Nat.pow_succ, Nat.mul_comm, Nat.div_div_eq_div_mul]
    rw [e] at h
    have h0 : n ≠ 0 := fun e => by subst e; simp at h
    rw [bl_pos h0, bl_shift k h, e]
    omega
theorem bl_le {k n : Nat} (h : n < 2 ^ k) : bl n ≤ k := by
  induction k generalizing n with
  | zero => have : n = 0 := by simp at h; exact h
            subst this; rw [bl_zero]; exact Nat.le_refl _
  | succ k ih =>
    by_cases h0 : n = 0
    · subst h0; rw [bl_zero]; omega
    · rw [bl_pos h0]
      have := ih (n := n / 2) (by rw [Nat.pow_succ] at h; omega)
      omega
theorem bl_lt (n : Nat) : n < 2 ^ bl n := by
  induction n using Nat.strongRecOn with
  | _ n ih =>
    by_cases h0 : n = 0
    · subst h0; rw [bl_zero]; decide
    · have := ih (n / 2) (Nat.div_lt_self (by omega) (by decide))
      rw [bl_pos h0, Nat.pow_succ]
      omega
theorem bl_mono {a b : Nat} (h : a ≤ b) : bl a ≤ bl b := bl_le (Nat.lt_of_le_of_lt h (bl_lt b))
/-- By the limb at the top. -/
theorem bl_top {n : Nat} (h : n ≠ 0) : bl n = 32 * ((limbs n).length - 1) + bl ((limbs n).getD ((limbs n).length - 1) 0).toNat := by
  induction n using Nat.strongRecOn with
  | _ n ih =>
    by_cases h1 : n / B = 0
    · have hb : n < B := by
        rcases Nat.lt_or_ge n B with h2 | h2
        · exact h2
        · exact absurd h1 (Nat.ne_of_gt (Nat.div_pos h2 (by decide)))
      rw [limbs_pos h, h1, limbs_zero, Nat.mod_eq_of_lt hb]
      simp
    · have e := ih (n / B) (Nat.div_lt_self (by omega) (by decide)) h1
      have hs := bl_shift 32 (n := n) (by rw [show (2 : Nat) ^ 32 = B from rfl]; exact h1)
      rw [show (2 : Nat) ^ 32 = B from rfl] at hs
      have hne : 0 < (limbs (n / B)).length := List.length_pos_iff.2 (fun e => h1 (limbs_eq_nil.1 e))
      rw [hs, e, limbs_pos h, List.length_cons, Nat.add_sub_cancel]
      have e2 : (((n % B : Nat) : Int) :: limbs (n / B)).getD (limbs (n / B)).length 0 = (limbs (n / B)).getD ((limbs (n / B)).length - 1) 0 := by
        obtain ⟨k, hk⟩ : ∃ k, (limbs (n / B)).length = k + 1 := ⟨(limbs (n / B)).length - 1, by omega⟩
        rw [hk, List.getD_cons_succ, Nat.add_sub_cancel]
      rw [e2]
      omega
end Go.NatMath
