/- More on limbs. -/
import Derived.Test.YtjnejhlnhapogaaNatMath
namespace Go.NatMath

def W (i : Nat) : Int := 4294967296 ^ i
theorem W_zero : W 0 = 1 := rfl
theorem W_succ (i : Nat) : W (i + 1) = W i * 4294967296 := by unfold W; rw [Int.pow_succ]
theorem W_pos (i : Nat) : 0 < W i := by unfold W; exact Int.pow_pos (by decide)
theorem W_add (i j : Nat) : W (i + j) = W i * W j := by unfold W; rw [Int.pow_add]
theorem W_nat (i : Nat) : W i = ((B ^ i : Nat) : Int) := by unfold W B; simp
/-- The number of a list, as an integer. -/
def iv (L : List Int) : Int := (nv L : Int)
theorem iv_nil : iv [] = 0 := rfl
theorem iv_nonneg (L : List Int) : 0 ≤ iv L := Int.natCast_nonneg _
theorem iv_lt {L : List Int} (h : okL L) : iv L < W L.length := by rw [W_nat]; unfold iv; exact_mod_cast nv_lt h
theorem iv_cons {x : Int} {L : List Int} (h : okL (x :: L)) : iv (x :: L) = x + 4294967296 * iv L := by
  have := (okL_cons.1 h).1
  unfold iv
  simp only [nv, B]
  omega
theorem iv_append (L M : List Int) : iv (L ++ M) = iv L + W L.length * iv M := by
  unfold iv; rw [nv_append, W_nat]; simp
theorem getD_take (L : List Int) (n i : Nat) : (L.take n).getD i 0 = if i < n then L.getD i 0 else 0 := by
  simp only [List.getD_eq_getElem?_getD, List.getElem?_take]
  split <;> rfl
theorem getD_drop (L : List Int) (n i : Nat) : (L.drop n).getD i 0 = L.getD (n + i) 0 := by
  simp only [List.getD_eq_getElem?_getD, List.getElem?_drop]
theorem getD_set (L : List Int) (i k : Nat) (v : Int) : (L.set i v).getD k 0 = if k = i ∧ i < L.length then v else L.getD k 0 := by
  simp only [List.getD_eq_getElem?_getD, List.getElem?_set]
  by_cases h : i = k
  · subst h
    by_cases h2 : i < L.length
    · simp [h2]
    · simp [h2]
  · rw [if_neg h, if_neg (fun e => h e.1.symm)]
theorem getD_append (L M : List Int) (k : Nat) : (L ++ M).getD k 0 = if k < L.length then L.getD k 0 else M.getD (k - L.length) 0 := by
  simp only [List.getD_eq_getElem?_getD, List.getElem?_append]
  split <;> rfl
theorem getD_ge (L : List Int) {k : Nat} (h : L.length ≤ k) : L.getD k 0 = 0 := by simp [List.getD_eq_getElem?_getD, List.getElem?_eq_none h]
theorem getD_replicate (n k : Nat) : (List.replicate n (0 : Int)).getD k 0 = 0 := by
  simp only [List.getD_eq_getElem?_getD, List.getElem?_replicate]; split <;> rfl
theorem getD_reverse (L : List Int) {k : Nat} (h : k < L.length) : L.reverse.getD k 0 = L.getD (L.length - 1 - k) 0 := by
  simp only [List.getD_eq_getElem?_getD, List.getElem?_reverse h]
theorem ext_getD {L M : List Int} (hl : L.length = M.length) (h : ∀ k, k < L.length → L.getD k 0 = M.getD k 0) : L = M := by
  refine List.ext_getElem hl (fun i h1 h2 => ?_)
  have := h i h1
  simpa [List.getD_eq_getElem?_getD, h1, h2] using this
theorem take_succ_getD (L : List Int) {i : Nat} (h : i < L.length) : L.take (i + 1) = L.take i ++ [L.getD i 0] := by
  rw [List.take_add_one, List.getElem?_eq_getElem h]
  simp [List.getD_eq_getElem?_getD, h]
theorem iv_one {x : Int} (h : 0 ≤ x) : iv [x] = x := by unfold iv; simp [nv]; omega
/-- The list up to one limb more, even beyond its end. -/
theorem iv_take_succ {L : List Int} (h : okL L) (i : Nat) : iv (L.take (i + 1)) = iv (L.take i) + W i * L.getD i 0 := by
  by_cases hi : i < L.length
  · rw [take_succ_getD L hi, iv_append, iv_one (okL_get h i).1, List.length_take, Nat.min_eq_left (by omega)]
  · rw [getD_ge L (by omega), List.take_of_length_le (by omega), List.take_of_length_le (by omega)]; omega
theorem iv_take_ge {L : List Int} {n : Nat} (h : L.length ≤ n) : iv (L.take n) = iv L := by rw [List.take_of_length_le h]
theorem iv_set : ∀ {L : List Int}, okL L → ∀ (i : Nat) {v : Int}, 0 ≤ v → v < 4294967296 → i < L.length → iv (L.set i v) = iv L + W i * (v - L.getD i 0)
  | [], _, i, v, _, _, h => by simp at h
  | x :: L, ho, 0, v, h1, h1', _ => by
    have h2 := okL_cons.1 ho
    have h3 : okL (v :: L) := okL_cons.2 ⟨⟨h1, h1'⟩, h2.2⟩
    simp only [List.set_cons_zero, iv_cons ho, iv_cons h3, W_zero, List.getD_cons_zero]
    omega
  | x :: L, ho, i + 1, v, h1, h1', h => by
    have h2 := okL_cons.1 ho
    have ih := iv_set h2.2 i h1 h1' (by simpa using h)
    have h3 : okL (x :: L.set i v) := okL_cons.2 ⟨h2.1, okL_set h2.2 i ⟨h1, h1'⟩⟩
    simp only [List.set_cons_succ, iv_cons ho, iv_cons h3, ih, List.getD_cons_succ, W_succ]
    grind
theorem iv_inj {L M : List Int} (hL : okL L) (hM : okL M) (hl : L.length = M.length) (h : iv L = iv M) : L = M := by
  induction L generalizing M with
  | nil => cases M with
    | nil => rfl
    | cons y M => simp at hl
  | cons x L ih => cases M with
    | nil => simp at hl
    | cons y M =>
      obtain ⟨h1, h2⟩ := okL_cons.1 hL
      obtain ⟨h3, h4⟩ := okL_cons.1 hM
      rw [iv_cons hL, iv_cons hM] at h
      have hxy : x = y := by omega
      subst hxy
      rw [ih h2 h4 (by simpa using hl) (by omega)]
theorem nv_eq_of_iv {L M : List Int} (h : iv L = iv M) : nv L = nv M := by unfold iv at h; omega
theorem limbs_length_nv {L : List Int} (h : okL L) : (limbs (nv L)).length ≤ L.length := limbs_length_le (nv_lt h)
theorem limbs_length_mono {a b : Nat} (h : a ≤ b) : (limbs a).length ≤ (limbs b).length := by
  refine limbs_length_le (Nat.lt_of_le_of_lt h ?_)
  have := nv_lt (okL_limbs b)
  rwa [nv_limbs] at this
theorem limbs_eq_nil {n : Nat} : limbs n = [] ↔ n = 0 := by
  constructor
  · intro h
    by_cases h0 : n = 0
    · exact h0
    · rw [limbs_pos h0] at h; cases h
  · intro h; subst h; exact limbs_zero
theorem limbs_inj {a b : Nat} (h : limbs a = limbs b) : a = b := by
  have := congrArg nv h
  rwa [nv_limbs, nv_limbs] at this
/-- The length of a plain number tells its size. -/
theorem limbs_length_lb {n : Nat} (h : n ≠ 0) : B ^ ((limbs n).length - 1) ≤ n := by
  have hne : limbs n ≠ [] := fun e => h (limbs_eq_nil.1 e)
  have h1 := limbs_last hne
  have h2 := List.dropLast_concat_getLast hne
  have h3 := congrArg nv h2
  rw [nv_append, nv_limbs, List.length_dropLast] at h3
  have hok := okL_limbs n _ (List.getLast_mem hne)
  have h4 : 1 ≤ nv [(limbs n).getLast hne] := by simp only [nv]; omega
  calc B ^ ((limbs n).length - 1) = B ^ ((limbs n).length - 1) * 1 := (Nat.mul_one _).symm
    _ ≤ B ^ ((limbs n).length - 1) * nv [(limbs n).getLast hne] := Nat.mul_le_mul_left _ h4
    _ ≤ n := by omega
theorem lt_of_limbs_length {a b : Nat} (h : (limbs a).length < (limbs b).length) : a < b := by
  rcases Nat.lt_or_ge a b with h1 | h1
  · exact h1
  · have := limbs_length_mono h1; omega
theorem nv_zero_of_length {L : List Int} (h : L.length = 0) : nv L = 0 := by rw [List.eq_nil_of_length_eq_zero h]; rfl
end Go.NatMath
