/- Contracts of functions that the law reaches: what they compute. No condition. -/
import Derived.Scope
import Derived.Test.YtjnejhlnhapogaaT1
set_option linter.unusedVariables false
set_option linter.unusedSimpArgs false
/- Numbers in limbs of 32 bits: plain facts. -/
namespace Go.NatMath

def B : Nat := 4294967296
theorem B_pos : 0 < B := by decide

/-- The number that a list of limbs represents. -/
def nv : List Int → Nat
  | [] => 0
  | x :: xs => x.toNat + B * nv xs

/-- The limbs of a number, plain. -/
def limbs (n : Nat) : List Int := if n = 0 then [] else ((n % B : Nat) : Int) :: limbs (n / B)
termination_by n
decreasing_by exact Nat.div_lt_self (by omega) (by decide)

/-- All limbs are limbs. -/
def okL (L : List Int) : Prop := ∀ x ∈ L, 0 ≤ x ∧ x < 4294967296

theorem limbs_zero : limbs 0 = [] := by unfold limbs; simp
theorem limbs_pos {n : Nat} (h : n ≠ 0) : limbs n = ((n % B : Nat) : Int) :: limbs (n / B) := by
  rw [limbs]; simp [h]

theorem okL_nil : okL [] := fun x hx => by simp at hx
theorem okL_cons {x : Int} {L : List Int} : okL (x :: L) ↔ (0 ≤ x ∧ x < 4294967296) ∧ okL L := by simp [okL]
theorem okL_append {L M : List Int} : okL (L ++ M) ↔ okL L ∧ okL M := by
  simp only [okL, List.mem_append]
  exact ⟨fun h => ⟨fun x hx => h x (.inl hx), fun x hx => h x (.inr hx)⟩, fun h x hx => hx.elim (h.1 x) (h.2 x)⟩
theorem okL_take {L : List Int} (n : Nat) (h : okL L) : okL (L.take n) := fun x hx => h x (List.mem_of_mem_take hx)
theorem okL_drop {L : List Int} (n : Nat) (h : okL L) : okL (L.drop n) := fun x hx => h x (List.mem_of_mem_drop hx)
theorem okL_get {L : List Int} (h : okL L) (i : Nat) : 0 ≤ L.getD i 0 ∧ L.getD i 0 < 4294967296 := by
  rw [List.getD_eq_getElem?_getD]
  cases hq : L[i]? with
  | none => simp
  | some x => simpa using h x (List.mem_of_getElem? hq)
theorem okL_set {L : List Int} (h : okL L) (i : Nat) {x : Int} (hx : 0 ≤ x ∧ x < 4294967296) : okL (L.set i x) := fun y hy => by
  rcases List.mem_or_eq_of_mem_set hy with h1 | h1
  · exact h y h1
  · subst h1; exact hx
theorem okL_replicate (n : Nat) : okL (List.replicate n 0) := fun x hx => by rw [List.eq_of_mem_replicate hx]; omega

theorem nv_limbs (n : Nat) : nv (limbs n) = n := by
  induction n using Nat.strongRecOn with
  | _ n ih =>
    by_cases h : n = 0
    · subst h; rw [limbs_zero]; rfl
    · rw [limbs_pos h, nv, ih (n / B) (Nat.div_lt_self (by omega) (by decide))]
      simp only [Int.toNat_natCast]
      exact Nat.mod_add_div n B

theorem okL_limbs (n : Nat) : okL (limbs n) := by
  induction n using Nat.strongRecOn with
  | _ n ih =>
    by_cases h : n = 0
    · subst h; rw [limbs_zero]; exact okL_nil
    · rw [limbs_pos h, okL_cons]
      refine ⟨⟨by omega, ?_⟩, ih _ (Nat.div_lt_self (by omega) (by decide))⟩
      have : n % B < B := Nat.mod_lt _ (by decide)
      unfold B at this ⊢
      omega

theorem nv_append : ∀ (L M : List Int), nv (L ++ M) = nv L + B ^ L.length * nv M
  | [], M => by simp [nv]
  | x :: L, M => by
    simp only [List.cons_append, nv, nv_append L M, List.length_cons, Nat.pow_succ]
    rw [Nat.mul_add, ← Nat.mul_assoc, Nat.mul_comm B (B ^ L.length), Nat.add_assoc]

theorem nv_lt : ∀ {L : List Int}, okL L → nv L < B ^ L.length
  | [], _ => by simp [nv]
  | x :: L, h => by
    obtain ⟨h1, h2⟩ := okL_cons.1 h
    have ih := nv_lt h2
    simp only [nv, List.length_cons, Nat.pow_succ]
    have h3 : x.toNat < B := by unfold B; omega
    have h4 : nv L + 1 ≤ B ^ L.length := ih
    calc x.toNat + B * nv L < B + B * nv L := by omega
      _ = B * (nv L + 1) := by rw [Nat.mul_add]; omega
      _ ≤ B * B ^ L.length := Nat.mul_le_mul_left _ h4
      _ = B ^ L.length * B := Nat.mul_comm _ _

theorem nv_replicate (n : Nat) : nv (List.replicate n 0) = 0 := by
  induction n with
  | zero => rfl
  | succ n ih => simp [List.replicate_succ, nv, ih]

/-- A list whose last limb is not 0 is plain. -/
theorem limbs_nv : ∀ {L : List Int}, okL L → (∀ h : L ≠ [], L.getLast h ≠ 0) → limbs (nv L) = L
  | [], _, _ => limbs_zero
  | x :: L, h, hl => by
    obtain ⟨h1, h2⟩ := okL_cons.1 h
    have hx : x.toNat < B := by unfold B; omega
    have hL : ∀ h : L ≠ [], L.getLast h ≠ 0 := fun hne => by
      have := hl (by simp)
      rwa [List.getLast_cons hne] at this
    have ih := limbs_nv h2 hL
    have hne : nv (x :: L) ≠ 0 := by
      simp only [nv]
      intro h0
      have hx0 : x.toNat = 0 := by omega
      have hL0 : B * nv L = 0 := by omega
      have hv : nv L = 0 := (Nat.mul_eq_zero.1 hL0).resolve_left (by decide)
      rw [hv, limbs_zero] at ih
      subst ih
      have := hl (by simp)
      simp at this
      omega
    rw [limbs_pos hne]
    simp only [nv]
    rw [Nat.add_mul_mod_self_left, Nat.mod_eq_of_lt hx, Nat.add_mul_div_left _ _ (by decide), Nat.div_eq_of_lt hx, Nat.zero_add, ih]
    congr 1
    omega

/-- What is cut off at the top are noughts. -/
theorem nv_take {L : List Int} {n : Nat} (h : ∀ i, n ≤ i → L.getD i 0 = 0) : nv (L.take n) = nv L := by
  have h2 : nv (L.drop n) = 0 := by
    have : ∀ (M : List Int), (∀ i, M.getD i 0 = 0) → nv M = 0 := by
      intro M
      induction M with
      | nil => intro _; rfl
      | cons x M ih =>
        intro hM
        have h0 := hM 0
        have := ih (fun i => by simpa using hM (i + 1))
        simp at h0
        simp [nv, h0, this]
    refine this _ (fun i => ?_)
    have := h (n + i) (by omega)
    rw [List.getD_eq_getElem?_getD] at this ⊢
    rwa [List.getElem?_drop]
  have h3 := nv_append (L.take n) (L.drop n)
  rw [List.take_append_drop, h2] at h3
  omega

/-- Trimming makes a list plain. -/
theorem trimmed {L : List Int} {n : Nat} (hok : okL L) (hn : n ≤ L.length) (h : ∀ i, n ≤ i → L.getD i 0 = 0) (hl : n = 0 ∨ L.getD (n - 1) 0 ≠ 0) : L.take n = limbs (nv L) := by
  rw [← nv_take h]
  refine (limbs_nv (okL_take n hok) (fun hne => ?_)).symm
  have hlen : (L.take n).length = n := by simp; omega
  have h0 : n ≠ 0 := fun e => hne (by simp [e])
  rcases hl with hl | hl
  · exact absurd hl h0
  · rw [List.getLast_eq_getElem]
    simp only [hlen, List.getElem_take]
    rw [List.getD_eq_getElem?_getD, List.getElem?_eq_getElem (by omega)] at hl
    simpa using hl

theorem limbs_length_le {n k : Nat} (h : n < B ^ k) : (limbs n).length ≤ k := by
  induction k generalizing n with
  | zero => simp at h; subst h; simp [limbs_zero]
  | succ k ih =>
    by_cases h0 : n = 0
    · subst h0; simp [limbs_zero]
    · rw [limbs_pos h0, List.length_cons]
      have : n / B < B ^ k := Nat.div_lt_of_lt_mul (by rw [Nat.pow_succ, Nat.mul_comm] at h; exact h)
      have := ih this
      omega

theorem limbs_last {n : Nat} (h : limbs n ≠ []) : (limbs n).getLast h ≠ 0 := by
  induction n using Nat.strongRecOn with
  | _ n ih =>
    by_cases h0 : n = 0
    · subst h0; exact absurd limbs_zero h
    · have e := limbs_pos h0
      by_cases h1 : n / B = 0
      · have e2 : limbs n = [((n % B : Nat) : Int)] := by rw [e, h1, limbs_zero]
        have hb : n % B = n := Nat.mod_eq_of_lt (by
          rcases Nat.lt_or_ge n B with h | h
          · exact h
          · exact absurd h1 (Nat.ne_of_gt (Nat.div_pos h (by decide))))
        have key : ∀ (l : List Int) (hl : l ≠ []), l = [((n % B : Nat) : Int)] → l.getLast hl ≠ 0 := by
          intro l hl el
          subst el
          simp only [List.getLast_singleton]
          omega
        exact key _ h e2
      · have hne : limbs (n / B) ≠ [] := by rw [limbs_pos h1]; simp
        have := ih _ (Nat.div_lt_self (by omega) (by decide)) hne
        have key : ∀ (l : List Int) (hl : l ≠ []), l = ((n % B : Nat) : Int) :: limbs (n / B) → l.getLast hl ≠ 0 := by
          intro l hl el
          subst el
          rw [List.getLast_cons hne]
          exact this
        exact key _ h e

end Go.NatMath

/- More on limbs. -/
namespace Go.NatMath

def W (i : Nat) : Int := 4294967296 ^ i
theorem W_zero : W 0 = 1 := rfl
theorem W_succ (i : Nat) : W (i + 1) = W i * 4294967296 := by unfold W; rw [Int.pow_succ]
theorem W_pos (i : Nat) : 0 < W i := by unfold W; exact Int.pow_pos (by decide)
theorem W_add (i j : Nat) : W (i + j) = W i * W j := by unfold W; rw [Int.pow_add]
theorem W_nat (i : Nat) : W i = ((B ^ i : Nat) : Int) := by unfold W B; simp
/-- The number of a list, as an integer. -/
def iv (L : List Int) : Int := (nv L : Int)
theorem iv_nil : iv [] = 0 := rfl
theorem iv_nonneg (L : List Int) : 0 ≤ iv L := Int.natCast_nonneg _
theorem iv_lt {L : List Int} (h : okL L) : iv L < W L.length := by rw [W_nat]; unfold iv; exact_mod_cast nv_lt h
theorem iv_cons {x : Int} {L : List Int} (h : okL (x :: L)) : iv (x :: L) = x + 4294967296 * iv L := by
  have := (okL_cons.1 h).1
  unfold iv
  simp only [nv, B]
  omega
theorem iv_append (L M : List Int) : iv (L ++ M) = iv L + W L.length * iv M := by
  unfold iv; rw [nv_append, W_nat]; simp
theorem getD_take (L : List Int) (n i : Nat) : (L.take n).getD i 0 = if i < n then L.getD i 0 else 0 := by
  simp only [List.getD_eq_getElem?_getD, List.getElem?_take]
  split <;> rfl
theorem getD_drop (L : List Int) (n i : Nat) : (L.drop n).getD i 0 = L.getD (n + i) 0 := by
  simp only [List.getD_eq_getElem?_getD, List.getElem?_drop]
theorem getD_set (L : List Int) (i k : Nat) (v : Int) : (L.set i v).getD k 0 = if k = i ∧ i < L.length then v else L.getD k 0 := by
  simp only [List.getD_eq_getElem?_getD, List.getElem?_set]
  by_cases h : i = k
  · subst h
    by_cases h2 : i < L.length
    · simp [h2]
    · simp [h2]
  · rw [if_neg h, if_neg (fun e => h e.1.symm)]
theorem getD_append (L M : List Int) (k : Nat) : (L ++ M).getD k 0 = if k < L.length then L.getD k 0 else M.getD (k - L.length) 0 := by
  simp only [List.getD_eq_getElem?_getD, List.getElem?_append]
  split <;> rfl
theorem getD_ge (L : List Int) {k : Nat} (h : L.length ≤ k) : L.getD k 0 = 0 := by simp [List.getD_eq_getElem?_getD, List.getElem?_eq_none h]
theorem getD_replicate (n k : Nat) : (List.replicate n (0 : Int)).getD k 0 = 0 := by
  simp only [List.getD_eq_getElem?_getD, List.getElem?_replicate]; split <;> rfl
theorem getD_reverse (L : List Int) {k : Nat} (h : k < L.length) : L.reverse.getD k 0 = L.getD (L.length - 1 - k) 0 := by
  simp only [List.getD_eq_getElem?_getD, List.getElem?_reverse h]
theorem ext_getD {L M : List Int} (hl : L.length = M.length) (h : ∀ k, k < L.length → L.getD k 0 = M.getD k 0) : L = M := by
  refine List.ext_getElem hl (fun i h1 h2 => ?_)
  have := h i h1
  simpa [List.getD_eq_getElem?_getD, h1, h2] using this
theorem take_succ_getD (L : List Int) {i : Nat} (h : i < L.length) : L.take (i + 1) = L.take i ++ [L.getD i 0] := by
  rw [List.take_add_one, List.getElem?_eq_getElem h]
  simp [List.getD_eq_getElem?_getD, h]
theorem iv_one {x : Int} (h : 0 ≤ x) : iv [x] = x := by unfold iv; simp [nv]; omega
/-- The list up to one limb more, even beyond its end. -/
theorem iv_take_succ {L : List Int} (h : okL L) (i : Nat) : iv (L.take (i + 1)) = iv (L.take i) + W i * L.getD i 0 := by
  by_cases hi : i < L.length
  · rw [take_succ_getD L hi, iv_append, iv_one (okL_get h i).1, List.length_take, Nat.min_eq_left (by omega)]
  · rw [getD_ge L (by omega), List.take_of_length_le (by omega), List.take_of_length_le (by omega)]; omega
theorem iv_take_ge {L : List Int} {n : Nat} (h : L.length ≤ n) : iv (L.take n) = iv L := by rw [List.take_of_length_le h]
theorem iv_set : ∀ {L : List Int}, okL L → ∀ (i : Nat) {v : Int}, 0 ≤ v → v < 4294967296 → i < L.length → iv (L.set i v) = iv L + W i * (v - L.getD i 0)
  | [], _, i, v, _, _, h => by simp at h
  | x :: L, ho, 0, v, h1, h1', _ => by
    have h2 := okL_cons.1 ho
    have h3 : okL (v :: L) := okL_cons.2 ⟨⟨h1, h1'⟩, h2.2⟩
    simp only [List.set_cons_zero, iv_cons ho, iv_cons h3, W_zero, List.getD_cons_zero]
    omega
  | x :: L, ho, i + 1, v, h1, h1', h => by
    have h2 := okL_cons.1 ho
    have ih := iv_set h2.2 i h1 h1' (by simpa using h)
    have h3 : okL (x :: L.set i v) := okL_cons.2 ⟨h2.1, okL_set h2.2 i ⟨h1, h1'⟩⟩
    simp only [List.set_cons_succ, iv_cons ho, iv_cons h3, ih, List.getD_cons_succ, W_succ]
    grind
theorem iv_inj {L M : List Int} (hL : okL L) (hM : okL M) (hl : L.length = M.length) (h : iv L = iv M) : L = M := by
  induction L generalizing M with
  | nil => cases M with
    | nil => rfl
    | cons y M => simp at hl
  | cons x L ih => cases M with
    | nil => simp at hl
    | cons y M =>
      obtain ⟨h1, h2⟩ := okL_cons.1 hL
      obtain ⟨h3, h4⟩ := okL_cons.1 hM
      rw [iv_cons hL, iv_cons hM] at h
      have hxy : x = y := by omega
      subst hxy
      rw [ih h2 h4 (by simpa using hl) (by omega)]
theorem nv_eq_of_iv {L M : List Int} (h : iv L = iv M) : nv L = nv M := by unfold iv at h; omega
theorem limbs_length_nv {L : List Int} (h : okL L) : (limbs (nv L)).length ≤ L.length := limbs_length_le (nv_lt h)
theorem limbs_length_mono {a b : Nat} (h : a ≤ b) : (limbs a).length ≤ (limbs b).length := by
  refine limbs_length_le (Nat.lt_of_le_of_lt h ?_)
  have := nv_lt (okL_limbs b)
  rwa [nv_limbs] at this
theorem limbs_eq_nil {n : Nat} : limbs n = [] ↔ n = 0 := by
  constructor
  · intro h
    by_cases h0 : n = 0
    · exact h0
    · rw [limbs_pos h0] at h; cases h
  · intro h; subst h; exact limbs_zero
theorem limbs_inj {a b : Nat} (h : limbs a = limbs b) : a = b := by
  have := congrArg nv h
  rwa [nv_limbs, nv_limbs] at this
/-- The length of a plain number tells its size. -/
theorem limbs_length_lb {n : Nat} (h : n ≠ 0) : B ^ ((limbs n).length - 1) ≤ n := by
  have hne : limbs n ≠ [] := fun e => h (limbs_eq_nil.1 e)
  have h1 := limbs_last hne
  have h2 := List.dropLast_concat_getLast hne
  have h3 := congrArg nv h2
  rw [nv_append, nv_limbs, List.length_dropLast] at h3
  have hok := okL_limbs n _ (List.getLast_mem hne)
  have h4 : 1 ≤ nv [(limbs n).getLast hne] := by simp only [nv]; omega
  calc B ^ ((limbs n).length - 1) = B ^ ((limbs n).length - 1) * 1 := (Nat.mul_one _).symm
    _ ≤ B ^ ((limbs n).length - 1) * nv [(limbs n).getLast hne] := Nat.mul_le_mul_left _ h4
    _ ≤ n := by omega
theorem lt_of_limbs_length {a b : Nat} (h : (limbs a).length < (limbs b).length) : a < b := by
  rcases Nat.lt_or_ge a b with h1 | h1
  · exact h1
  · have := limbs_length_mono h1; omega
theorem nv_zero_of_length {L : List Int} (h : L.length = 0) : nv L = 0 := by rw [List.eq_nil_of_length_eq_zero h]; rfl
end Go.NatMath

/- Limbs without regard to lengths. -/
namespace Go.NatMath
set_option linter.unusedVariables false

theorem iv_take_lt {A : List Int} (hA : okL A) (j : Nat) : iv (A.take j) < W j := by
  induction j with
  | zero => simp [iv, nv, W]
  | succ j ih =>
    have hx := okL_get hA j
    have hw := W_pos j
    rw [iv_take_succ hA, W_succ]
    have : W j * A.getD j 0 ≤ W j * 4294967295 := Int.mul_le_mul_of_nonneg_left (by omega) (Int.le_of_lt hw)
    omega
theorem iv_take_diff {A C : List Int} (hA : okL A) (hC : okL C) {j : Nat} (h : ∀ k, j ≤ k → A.getD k 0 = C.getD k 0) (n : Nat) : iv (A.take (j + n)) - iv (C.take (j + n)) = iv (A.take j) - iv (C.take j) := by
  induction n with
  | zero => rfl
  | succ n ih =>
    rw [← Nat.add_assoc, iv_take_succ hA, iv_take_succ hC, h (j + n) (by omega)]
    omega
theorem iv_diff {A C : List Int} (hA : okL A) (hC : okL C) {j : Nat} (h : ∀ k, j ≤ k → A.getD k 0 = C.getD k 0) : iv A - iv C = iv (A.take j) - iv (C.take j) := by
  have := iv_take_diff hA hC h (A.length + C.length)
  rwa [iv_take_ge (by omega), iv_take_ge (by omega)] at this
theorem nv_eq_getD {A C : List Int} (hA : okL A) (hC : okL C) (h : ∀ k, A.getD k 0 = C.getD k 0) : nv A = nv C := by
  have := iv_diff hA hC (j := 0) (fun k _ => h k)
  simp only [List.take_zero, iv_nil] at this
  exact nv_eq_of_iv (by omega)
theorem nv_lt_at {A C : List Int} (hA : okL A) (hC : okL C) {j : Nat} (hs : ∀ k, j < k → A.getD k 0 = C.getD k 0) (h : A.getD j 0 < C.getD j 0) : nv A < nv C := by
  have e := iv_diff hA hC (j := j + 1) (fun k hk => hs k hk)
  rw [iv_take_succ hA, iv_take_succ hC] at e
  have h1 := iv_take_lt hA j
  have h2 := iv_nonneg (C.take j)
  have h3 : W j * (A.getD j 0 + 1) ≤ W j * C.getD j 0 := Int.mul_le_mul_of_nonneg_left (by omega) (Int.le_of_lt (W_pos j))
  rw [Int.mul_add, Int.mul_one] at h3
  have h4 : iv A < iv C := by omega
  unfold iv at h4
  omega
/-- What is below W n has no limbs from n on. -/
theorem iv_take_of_lt {C : List Int} (hC : okL C) {n : Nat} (h : iv C < W n) : iv (C.take n) = iv C := by
  rcases Nat.lt_or_ge n C.length with hn | hn
  · have e := iv_append (C.take n) (C.drop n)
    rw [List.take_append_drop, List.length_take, Nat.min_eq_left (by omega)] at e
    have h1 := iv_nonneg (C.take n)
    have h2 := iv_nonneg (C.drop n)
    rcases (show iv (C.drop n) = 0 ∨ 1 ≤ iv (C.drop n) by omega) with h3 | h3
    · rw [h3, Int.mul_zero] at e; omega
    · have : W n * 1 ≤ W n * iv (C.drop n) := Int.mul_le_mul_of_nonneg_left h3 (Int.le_of_lt (W_pos n))
      omega
  · exact iv_take_ge hn
end Go.NatMath

/- Binary digits. -/
namespace Go.NatMath
set_option linter.unusedVariables false

/-- How many binary digits a number has. -/
def bl (n : Nat) : Nat := if n = 0 then 0 else bl (n / 2) + 1
termination_by n
decreasing_by exact Nat.div_lt_self (by omega) (by decide)
theorem bl_zero : bl 0 = 0 := by unfold bl; simp
theorem bl_pos {n : Nat} (h : n ≠ 0) : bl n = bl (n / 2) + 1 := by rw [bl]; simp [h]
theorem bl_eq_zero {n : Nat} : bl n = 0 ↔ n = 0 := by
  constructor
  · intro h
    by_cases h0 : n = 0
    · exact h0
    · rw [bl_pos h0] at h; omega
  · intro h; subst h; exact bl_zero
theorem bl_shift : ∀ (k : Nat) {n : Nat}, n / 2 ^ k ≠ 0 → bl n = bl (n / 2 ^ k) + k
  | 0, n, _ => by simp
  | k + 1, n, h => by
    have e : n / 2 ^ (k + 1) = n / 2 / 2 ^ k := by rw [Nat.pow_succ, Nat.mul_comm, Nat.div_div_eq_div_mul]
    rw [e] at h
    have h0 : n ≠ 0 := fun e => by subst e; simp at h
    rw [bl_pos h0, bl_shift k h, e]
    omega
theorem bl_le {k n : Nat} (h : n < 2 ^ k) : bl n ≤ k := by
  induction k generalizing n with
  | zero => have : n = 0 := by simp at h; exact h
            subst this; rw [bl_zero]; exact Nat.le_refl _
  | succ k ih =>
    by_cases h0 : n = 0
    · subst h0; rw [bl_zero]; omega
    · rw [bl_pos h0]
      have := ih (n := n / 2) (by rw [Nat.pow_succ] at h; omega)
      omega
theorem bl_lt (n : Nat) : n < 2 ^ bl n := by
  induction n using Nat.strongRecOn with
  | _ n ih =>
    by_cases h0 : n = 0
    · subst h0; rw [bl_zero]; decide
    · have := ih (n / 2) (Nat.div_lt_self (by omega) (by decide))
      rw [bl_pos h0, Nat.pow_succ]
      omega
theorem bl_mono {a b : Nat} (h : a ≤ b) : bl a ≤ bl b := bl_le (Nat.lt_of_le_of_lt h (bl_lt b))
/-- By the limb at the top. -/
theorem bl_top {n : Nat} (h : n ≠ 0) : bl n = 32 * ((limbs n).length - 1) + bl ((limbs n).getD ((limbs n).length - 1) 0).toNat := by
  induction n using Nat.strongRecOn with
  | _ n ih =>
    by_cases h1 : n / B = 0
    · have hb : n < B := by
        rcases Nat.lt_or_ge n B with h2 | h2
        · exact h2
        · exact absurd h1 (Nat.ne_of_gt (Nat.div_pos h2 (by decide)))
      rw [limbs_pos h, h1, limbs_zero, Nat.mod_eq_of_lt hb]
      simp
    · have e := ih (n / B) (Nat.div_lt_self (by omega) (by decide)) h1
      have hs := bl_shift 32 (n := n) (by rw [show (2 : Nat) ^ 32 = B from rfl]; exact h1)
      rw [show (2 : Nat) ^ 32 = B from rfl] at hs
      have hne : 0 < (limbs (n / B)).length := List.length_pos_iff.2 (fun e => h1 (limbs_eq_nil.1 e))
      rw [hs, e, limbs_pos h, List.length_cons, Nat.add_sub_cancel]
      have e2 : (((n % B : Nat) : Int) :: limbs (n / B)).getD (limbs (n / B)).length 0 = (limbs (n / B)).getD ((limbs (n / B)).length - 1) 0 := by
        obtain ⟨k, hk⟩ : ∃ k, (limbs (n / B)).length = k + 1 := ⟨(limbs (n / B)).length - 1, by omega⟩
        rw [hk, List.getD_cons_succ, Nat.add_sub_cancel]
      rw [e2]
      omega
end Go.NatMath

/- Limbs up to a length; shifts by less than a limb. -/
namespace Go.NatMath
set_option linter.unusedVariables false

/-- So many limbs of a number. -/
def lim : Nat → Nat → List Int
  | 0, _ => []
  | k + 1, m => ((m % B : Nat) : Int) :: lim k (m / B)
theorem lim_length : ∀ (k m : Nat), (lim k m).length = k
  | 0, _ => rfl
  | k + 1, m => by rw [lim, List.length_cons, lim_length]
theorem okL_lim : ∀ (k m : Nat), okL (lim k m)
  | 0, _ => okL_nil
  | k + 1, m => okL_cons.2 ⟨⟨by omega, by have := Nat.mod_lt m B_pos; unfold B at this ⊢; omega⟩, okL_lim k _⟩
theorem nv_lim : ∀ (k m : Nat), m < B ^ k → nv (lim k m) = m
  | 0, m, h => by simp at h; subst h; rfl
  | k + 1, m, h => by
    rw [lim, nv, nv_lim k (m / B) (Nat.div_lt_of_lt_mul (by rw [Nat.pow_succ, Nat.mul_comm] at h; exact h)), Int.toNat_natCast]
    exact Nat.mod_add_div m B
theorem eq_lim {L : List Int} (h : okL L) {k m : Nat} (hk : L.length = k) (hm : nv L = m) : L = lim k m := by
  subst hk hm
  refine iv_inj h (okL_lim _ _) (lim_length _ _).symm ?_
  unfold iv
  rw [nv_lim _ _ (nv_lt h)]

theorem take_set_ge (L : List Int) {n i : Nat} (v : Int) (h : n ≤ i) : (L.set i v).take n = L.take n := by
  refine ext_getD (by simp) (fun k hk => ?_)
  simp only [List.length_take, List.length_set] at hk
  rw [getD_take, getD_take, getD_set]
  by_cases hkn : k < n
  · rw [if_pos hkn, if_pos hkn, if_neg (by omega)]
  · omega
theorem getD_mid {A R Z : List Int} {off i : Nat} (hA : A.length = off) (hi : i < R.length) : (A ++ R ++ Z).getD (off + i) 0 = R.getD i 0 := by
  rw [List.append_assoc, getD_append, if_neg (by omega), getD_append, if_pos (by omega)]
  congr 1; omega
theorem set_mid {A R Z : List Int} {off i : Nat} (hA : A.length = off) (hi : i < R.length) (v : Int) : (A ++ R ++ Z).set (off + i) v = A ++ R.set i v ++ Z := by
  rw [List.append_assoc, List.set_append_right _ _ (by omega), List.set_append_left _ _ (by omega), show off + i - A.length = i by omega, List.append_assoc]

/-! ### Shifts by less than a limb -/
theorem pow_mul_split {n : Nat} (h : n ≤ 32) : (4294967296 : Int) = 2 ^ n * 2 ^ (32 - n) := by
  rw [← Int.pow_add, show n + (32 - n) = 32 by omega]; rfl
/-- `up`: one limb more. -/
theorem up_step {L O : List Int} (hL : okL L) (hO : okL O) {n i : Nat} (hi : i + 1 < O.length) (h0 : O.getD (i + 1) 0 = 0) (h : iv O = iv (L.take i) * 2 ^ n)
    (hb : 0 ≤ L.getD i 0 * 2 ^ n / 4294967296 ∧ L.getD i 0 * 2 ^ n / 4294967296 < 4294967296) (hs : 0 ≤ O.getD i 0 + L.getD i 0 * 2 ^ n % 4294967296 ∧ O.getD i 0 + L.getD i 0 * 2 ^ n % 4294967296 < 4294967296) :
    iv ((O.set i (O.getD i 0 + L.getD i 0 * 2 ^ n % 4294967296)).set (i + 1) (L.getD i 0 * 2 ^ n / 4294967296)) = iv (L.take (i + 1)) * 2 ^ n := by
  have hO2 : okL (O.set i (O.getD i 0 + L.getD i 0 * 2 ^ n % 4294967296)) := okL_set hO _ hs
  rw [iv_set hO2 _ hb.1 hb.2 (by simpa using hi), getD_set, if_neg (by omega), h0, iv_set hO _ hs.1 hs.2 (by omega), iv_take_succ hL, W_succ, h]
  have hdm := Int.mul_ediv_add_emod (L.getD i 0 * 2 ^ n) 4294967296
  generalize L.getD i 0 * 2 ^ n / 4294967296 = q at *
  generalize hp : L.getD i 0 * 2 ^ n % 4294967296 = m at *
  generalize W i = w at *
  generalize iv (L.take i) = a at *
  generalize L.getD i 0 = x at *
  generalize O.getD i 0 = y at *
  generalize (2 : Int) ^ n = p at *
  grind
theorem down_step {L O : List Int} (hL : okL L) (hO : okL O) {n i : Nat} (hn : n ≤ 32) (hi : i < O.length) (h : 2 ^ n * iv (O.take i) + L.getD 0 0 % 2 ^ n = iv (L.take i) + W i * (L.getD i 0 % 2 ^ n)) {v : Int}
    (hv : v = L.getD i 0 / 2 ^ n + L.getD (i + 1) 0 % 2 ^ n * 2 ^ (32 - n)) (hv0 : 0 ≤ v ∧ v < 4294967296) :
    2 ^ n * iv ((O.set i v).take (i + 1)) + L.getD 0 0 % 2 ^ n = iv (L.take (i + 1)) + W (i + 1) * (L.getD (i + 1) 0 % 2 ^ n) := by
  rw [iv_take_succ (okL_set hO _ hv0), take_set_ge _ _ (Nat.le_refl _), getD_set, if_pos ⟨rfl, hi⟩, iv_take_succ hL, W_succ, hv]
  have hdm := Int.mul_ediv_add_emod (L.getD i 0) (2 ^ n)
  have hp := pow_mul_split hn
  generalize (2 : Int) ^ (32 - n) = q at *
  generalize L.getD i 0 / 2 ^ n = d at *
  generalize L.getD (i + 1) 0 % 2 ^ n = r1 at *
  generalize L.getD i 0 % 2 ^ n = r0 at *
  generalize L.getD 0 0 % 2 ^ n = s at *
  generalize L.getD i 0 = x at *
  generalize W i = w at *
  generalize iv (L.take i) = a at *
  generalize iv (O.take i) = b at *
  generalize (2 : Int) ^ n = p at *
  rw [hp]
  grind
theorem down_end {L O : List Int} (hL : okL L) (hl : O.length = L.length) {n : Nat} (h : 2 ^ n * iv (O.take L.length) + L.getD 0 0 % 2 ^ n = iv (L.take L.length) + W L.length * (L.getD L.length 0 % 2 ^ n)) : nv O = nv L / 2 ^ n := by
  rw [iv_take_ge (by omega), iv_take_ge (by omega), getD_ge L (Nat.le_refl _)] at h
  have hp : (0 : Int) < 2 ^ n := Int.pow_pos (by decide)
  have h0 := Int.emod_nonneg (L.getD 0 0) (show (2 : Int) ^ n ≠ 0 by omega)
  have h1 := Int.emod_lt_of_pos (L.getD 0 0) hp
  rw [Int.zero_emod, Int.mul_zero, Int.add_zero] at h
  have h2 : iv O = iv L / 2 ^ n := by
    rw [← h, Int.mul_comm, Int.add_comm, Int.add_mul_ediv_right _ _ (by omega), Int.ediv_eq_zero_of_lt h0 h1, Int.zero_add]
  unfold iv at h2
  exact_mod_cast h2

/-! ### A multiple is taken away -/
theorem less_step {A C R : List Int} (hA : okL A) (hC : okL C) (hR : okL R) {i : Nat} {q c w t d w2 : Int} (hi : i < R.length) (hs : R.getD i 0 = A.getD i 0)
    (h : iv (R.take i) - W i * (c + w) = iv (A.take i) - q * iv (C.take i)) (ht : t = c + C.getD i 0 * q) (hd : d = A.getD i 0 - t % 4294967296 - w + 4294967296 * w2) (hd0 : 0 ≤ d ∧ d < 4294967296) :
    iv ((R.set i d).take (i + 1)) - W (i + 1) * (t / 4294967296 + w2) = iv (A.take (i + 1)) - q * iv (C.take (i + 1)) := by
  rw [iv_take_succ (okL_set hR _ hd0), take_set_ge _ _ (Nat.le_refl _), getD_set, if_pos ⟨rfl, hi⟩, iv_take_succ hA, iv_take_succ hC, W_succ]
  have hdm := Int.mul_ediv_add_emod t 4294967296
  generalize t / 4294967296 = u at *
  generalize t % 4294967296 = m at *
  generalize A.getD i 0 = x at *
  generalize C.getD i 0 = y at *
  generalize W i = v at *
  generalize iv (R.take i) = r at *
  generalize iv (A.take i) = a at *
  generalize iv (C.take i) = b at *
  grind
theorem back_step {A C R : List Int} (hA : okL A) (hC : okL C) (hR : okL R) {i : Nat} {c s : Int} (hi : i < R.length) (hs : R.getD i 0 = A.getD i 0)
    (h : iv (R.take i) + W i * c = iv (A.take i) + iv (C.take i)) (ht : s = A.getD i 0 + C.getD i 0 + c) :
    iv ((R.set i (s % 4294967296)).take (i + 1)) + W (i + 1) * (s / 4294967296) = iv (A.take (i + 1)) + iv (C.take (i + 1)) := by
  rw [iv_take_succ (okL_set hR _ (by omega)), take_set_ge _ _ (Nat.le_refl _), getD_set, if_pos ⟨rfl, hi⟩, iv_take_succ hA, iv_take_succ hC, W_succ]
  have hdm := Int.mul_ediv_add_emod s 4294967296
  generalize s / 4294967296 = u at *
  generalize s % 4294967296 = m at *
  generalize A.getD i 0 = x at *
  generalize C.getD i 0 = y at *
  generalize W i = v at *
  generalize iv (R.take i) = r at *
  generalize iv (A.take i) = a at *
  generalize iv (C.take i) = b at *
  grind
end Go.NatMath

/- Division by a number of two limbs and more: a guess of a limb. -/
namespace Go.NatMath
set_option linter.unusedVariables false

theorem mul_le_r {a b c : Int} (hc : 0 ≤ c) (h : a ≤ b) : a * c ≤ b * c := Int.mul_le_mul_of_nonneg_right h hc
theorem mul_le_l {a b c : Int} (hc : 0 ≤ c) (h : a ≤ b) : c * a ≤ c * b := Int.mul_le_mul_of_nonneg_left h hc
theorem lt_of_mul {a b c : Int} (hc : 0 ≤ c) (h : a * c < b * c) : a < b := Int.lt_of_mul_lt_mul_right h hc

/-- What is known of a divisor, and of the part of the rest that it is held against. -/
structure Gs (P V E top next two r2 : Int) : Prop where
  he : 0 < E
  htop : 2147483648 ≤ top ∧ top < 4294967296
  hnext : 0 ≤ next ∧ next < 4294967296
  hr2 : 0 ≤ r2 ∧ r2 < 4294967296
  htwo : 0 ≤ two
  v1 : (top * 4294967296 + next) * E ≤ V
  v2 : V < (top * 4294967296 + next + 1) * E
  p1 : (two * 4294967296 + r2) * E ≤ P
  p2 : P < (two * 4294967296 + r2 + 1) * E
  pv : P < 4294967296 * V

variable {P V E top next two r2 g rest : Int}
theorem Gs.vpos (h : Gs P V E top next two r2) : 0 < V := by
  have h1 : 1 * E ≤ (top * 4294967296 + next) * E := mul_le_r (Int.le_of_lt h.he) (by have := h.htop; have := h.hnext; omega)
  have := h.v1
  have := h.he
  omega
theorem Gs.two_le (h : Gs P V E top next two r2) : two ≤ top * 4294967296 + next := by
  have h1 : (two * 4294967296 + r2) * E < (4294967296 * (top * 4294967296 + next + 1)) * E := by
    rw [Int.mul_assoc]
    have := h.p1; have := h.pv; have := h.v2
    omega
  have := lt_of_mul (Int.le_of_lt h.he) h1
  have := h.hr2
  omega
theorem Gs.init (h : Gs P V E top next two r2) (hg : 0 ≤ g) (hr : g * top + rest = two) (hr0 : 0 ≤ rest) (hrt : rest < top) : P < (g + 1) * V := by
  have h1 : (two * 4294967296 + r2 + 1) * E ≤ ((g + 1) * (top * 4294967296 + next)) * E := by
    refine mul_le_r (Int.le_of_lt h.he) ?_
    have e1 : (g + 1) * (top * 4294967296 + next) = (g * top) * 4294967296 + top * 4294967296 + (g + 1) * next := by grind
    have e2 : 0 ≤ (g + 1) * next := Int.mul_nonneg (by omega) h.hnext.1
    have := h.hr2
    rw [e1]
    omega
  have h2 : (g + 1) * ((top * 4294967296 + next) * E) ≤ (g + 1) * V := mul_le_l (by omega) h.v1
  rw [← Int.mul_assoc] at h2
  have := h.p2
  omega
theorem Gs.dec1 (h : Gs P V E top next two r2) (hg : 4294967296 ≤ g) : P < g * V := by
  have h1 : 4294967296 * V ≤ g * V := mul_le_r (Int.le_of_lt h.vpos) hg
  have := h.pv
  omega
theorem Gs.dec2 (h : Gs P V E top next two r2) (hg : 0 ≤ g) (hr : g * top + rest = two) (hn : rest * 4294967296 + r2 < g * next) : P < g * V := by
  have h1 : (two * 4294967296 + r2 + 1) * E ≤ (g * (top * 4294967296 + next)) * E := by
    refine mul_le_r (Int.le_of_lt h.he) ?_
    have e1 : g * (top * 4294967296 + next) = (g * top) * 4294967296 + g * next := by grind
    rw [e1]
    omega
  have h2 : g * ((top * 4294967296 + next) * E) ≤ g * V := mul_le_l hg h.v1
  rw [← Int.mul_assoc] at h2
  have := h.p2
  omega
/-- What goes on is a limb. -/
theorem Gs.lt_base (h : Gs P V E top next two r2) (hr : g * top + rest = two) (hb : 4294967296 ≤ rest) : g < 4294967296 := by
  have h1 := h.two_le
  have h2 := h.hnext
  have h3 : g * top < 4294967296 * top := by omega
  exact lt_of_mul (by have := h.htop; omega) h3
theorem Gs.le_base (h : Gs P V E top next two r2) (hr : g * top + rest = two) (hr0 : 0 ≤ rest) : g ≤ 4294967297 := by
  have h1 := h.two_le
  have h2 := h.hnext
  have h4 := h.htop
  have h3 : g * top < 4294967298 * top := by omega
  have := lt_of_mul (by omega) h3
  omega
theorem Gs.fits1 (hr : g * top + rest = two) (hn : g * next ≤ rest * 4294967296 + r2) : g * (top * 4294967296 + next) ≤ two * 4294967296 + r2 := by
  have e1 : g * (top * 4294967296 + next) = (g * top) * 4294967296 + g * next := by grind
  rw [e1]
  omega
theorem Gs.fits2 (h : Gs P V E top next two r2) (hg : 0 ≤ g) (hgb : g < 4294967296) (hr : g * top + rest = two) (hb : 4294967296 ≤ rest) : g * (top * 4294967296 + next) ≤ two * 4294967296 + r2 := by
  refine Gs.fits1 hr ?_
  have h1 : g * next ≤ g * 4294967296 := mul_le_l hg (Int.le_of_lt h.hnext.2)
  have := h.hr2
  omega
/-- The guess is too great by one at most. -/
theorem Gs.last (h : Gs P V E top next two r2) (hg : 0 ≤ g) (hgb : g < 4294967296) (hf : g * (top * 4294967296 + next) ≤ two * 4294967296 + r2) : (g - 1) * V ≤ P := by
  rcases Int.lt_or_le P ((g - 1) * V) with hlt | hle
  · exfalso
    have hg1 : 0 ≤ g - 1 := by
      rcases Int.lt_or_le (g - 1) 0 with h0 | h0
      · have : g - 1 = -1 := by omega
        rw [this] at hlt
        have h1 := h.p1
        have h2 : 0 ≤ (two * 4294967296 + r2) * E := Int.mul_nonneg (by have := h.htwo; have := h.hr2; omega) (Int.le_of_lt h.he)
        have := h.vpos
        omega
      · exact h0
    have h1 : (g - 1) * V ≤ (g - 1) * ((top * 4294967296 + next + 1) * E) := mul_le_l hg1 (Int.le_of_lt h.v2)
    rw [← Int.mul_assoc] at h1
    have h2 : (two * 4294967296 + r2) * E < ((g - 1) * (top * 4294967296 + next + 1)) * E := by have := h.p1; omega
    have h3 := lt_of_mul (Int.le_of_lt h.he) h2
    have e1 : (g - 1) * (top * 4294967296 + next + 1) = g * (top * 4294967296 + next) - (top * 4294967296 + next) + g - 1 := by grind
    rw [e1] at h3
    have := h.htop
    have := h.hnext
    omega
  · exact hle

/-- Of a number in limbs: what stands from one place on. -/
theorem iv_split {L : List Int} (hL : okL L) (n : Nat) : iv L = iv (L.take n) + W n * iv (L.drop n) := by
  rcases Nat.lt_or_ge n L.length with h | h
  · have e := iv_append (L.take n) (L.drop n)
    rwa [List.take_append_drop, List.length_take, Nat.min_eq_left (by omega)] at e
  · rw [List.drop_of_length_le h, iv_take_ge h, iv_nil, Int.mul_zero, Int.add_zero]
/-- The two limbs at the top, and the rest. -/
theorem top_two {L : List Int} (hL : okL L) {m : Nat} (hm : L.length = m + 2) : (L.getD (m + 1) 0 * 4294967296 + L.getD m 0) * W m ≤ iv L ∧ iv L < (L.getD (m + 1) 0 * 4294967296 + L.getD m 0 + 1) * W m := by
  have e1 := iv_take_succ hL (m + 1)
  have e2 := iv_take_succ hL m
  rw [iv_take_ge (by omega)] at e1
  rw [W_succ] at e1
  have h1 := iv_take_lt hL m
  have h2 := iv_nonneg (L.take m)
  generalize iv (L.take m) = l at *
  generalize iv (L.take (m + 1)) = k at *
  generalize L.getD (m + 1) 0 = x at *
  generalize L.getD m 0 = y at *
  generalize iv L = v at *
  generalize W m = w at *
  have e3 : v = l + (x * 4294967296 + y) * w := by rw [e1, e2]; grind
  have e4 : (x * 4294967296 + y + 1) * w = (x * 4294967296 + y) * w + w := by grind
  rw [e4, e3]
  omega
theorem top_three {L : List Int} (hL : okL L) {m : Nat} (hm : L.length = m + 3) : ((L.getD (m + 2) 0 * 4294967296 + L.getD (m + 1) 0) * 4294967296 + L.getD m 0) * W m ≤ iv L ∧ iv L < ((L.getD (m + 2) 0 * 4294967296 + L.getD (m + 1) 0) * 4294967296 + L.getD m 0 + 1) * W m := by
  have e0 := iv_take_succ hL (m + 2)
  have e1 := iv_take_succ hL (m + 1)
  have e2 := iv_take_succ hL m
  rw [iv_take_ge (by omega), W_succ] at e0
  rw [W_succ] at e1 e0
  have h1 := iv_take_lt hL m
  have h2 := iv_nonneg (L.take m)
  generalize iv (L.take m) = l at *
  generalize iv (L.take (m + 1)) = k at *
  generalize iv (L.take (m + 2)) = j at *
  generalize L.getD (m + 2) 0 = z at *
  generalize L.getD (m + 1) 0 = x at *
  generalize L.getD m 0 = y at *
  generalize iv L = v at *
  generalize W m = w at *
  have e3 : v = l + ((z * 4294967296 + x) * 4294967296 + y) * w := by rw [e0, e1, e2]; grind
  have e4 : ((z * 4294967296 + x) * 4294967296 + y + 1) * w = ((z * 4294967296 + x) * 4294967296 + y) * w + w := by grind
  rw [e4, e3]
  omega
theorem iv_lim {n : Nat} {x : Int} (h0 : 0 ≤ x) (h1 : x < W n) : iv (lim n x.toNat) = x := by
  unfold iv
  rw [nv_lim]
  · omega
  · rw [W_nat] at h1; omega
theorem part_facts {X A Z : List Int} {k m : Nat} {V : Int} (hR : okL (X ++ A ++ Z)) (hX : X.length = k) (hA : A.length = m + 1) (hV : V ≤ W m) (h : iv (X ++ A ++ Z) < V * W (k + 1)) :
    iv Z = 0 ∧ (∀ A' : List Int, A'.length = m + 1 → iv (X ++ A' ++ Z) = iv X + W k * iv A') ∧ iv A < 4294967296 * V := by
  have gen : ∀ A' : List Int, A'.length = m + 1 → iv (X ++ A' ++ Z) = iv X + W k * (iv A' + W (m + 1) * iv Z) := fun A' hA' => by
    rw [List.append_assoc, iv_append, iv_append, hX, hA']
  have hk := W_pos k
  have h0 := iv_nonneg X
  have h1 := iv_nonneg A
  have h2 := iv_nonneg Z
  have hZ : iv Z = 0 := by
    rcases (show iv Z = 0 ∨ 1 ≤ iv Z by omega) with hz | hz
    · exact hz
    · exfalso
      rw [gen A hA, W_succ] at h
      have g1 : W (m + 1) * 1 ≤ W (m + 1) * iv Z := mul_le_l (Int.le_of_lt (W_pos _)) hz
      have g2 : W k * W (m + 1) ≤ W k * (iv A + W (m + 1) * iv Z) := mul_le_l (Int.le_of_lt hk) (by omega)
      have g3 : V * (W k * 4294967296) ≤ W m * (W k * 4294967296) := mul_le_r (by omega) hV
      rw [W_succ] at g2 h
      have g4 : W k * (W m * 4294967296) = W m * (W k * 4294967296) := by grind
      omega
  refine ⟨hZ, fun A' hA' => by rw [gen A' hA', hZ, Int.mul_zero, Int.add_zero], ?_⟩
  rw [gen A hA, hZ, Int.mul_zero, Int.add_zero, W_succ] at h
  have g1 : W k * iv A < W k * (4294967296 * V) := by
    have : V * (W k * 4294967296) = W k * (4294967296 * V) := by grind
    omega
  exact Int.lt_of_mul_lt_mul_left g1 (Int.le_of_lt hk)
/-- One limb of the quotient is found. -/
theorem limb_done {X A A' Z Q : List Int} {k m : Nat} {V N g : Int} (hQ : okL Q) (hk : k < Q.length) (hq0 : Q.getD k 0 = 0) (hg : 0 ≤ g ∧ g < 4294967296) (hA : A.length = m + 1) (hA' : A'.length = m + 1) (hX : okL X) (hXl : X.length = k)
    (hf : ∀ A' : List Int, A'.length = m + 1 → iv (X ++ A' ++ Z) = iv X + W k * iv A') (hv : iv A' = iv A - g * V) (hlt : iv A' < V) (h : iv Q * V + iv (X ++ A ++ Z) = N) :
    iv (Q.set k g) * V + iv (X ++ A' ++ Z) = N ∧ iv (X ++ A' ++ Z) < V * W k := by
  rw [hf A' hA', iv_set hQ k hg.1 hg.2 hk, hq0, hv, ← h, hf A hA]
  have h1 := iv_lt hX
  rw [hXl] at h1
  refine ⟨by grind, ?_⟩
  have h2 : W k * (iv A - g * V) ≤ W k * (V - 1) := mul_le_l (Int.le_of_lt (W_pos k)) (by omega)
  have e : W k * (V - 1) = V * W k - W k := by grind
  omega
/-- What is taken away, and put back if it was too much. -/
theorem less_ok {A : List Int} {n : Nat} {V g : Int} (hn : A.length = n) (h0 : 0 ≤ iv A - g * V) (hA : okL A) (hg : 0 ≤ g * V) : iv (lim n ((iv A - g * V) % W n).toNat) = iv A - g * V := by
  have h1 := iv_lt hA
  rw [hn] at h1
  rw [Int.emod_eq_of_lt h0 (by omega)]
  exact iv_lim h0 (by omega)
theorem back_ok {A : List Int} {n : Nat} {V g : Int} (h0 : iv A - g * V < 0) (h1 : 0 ≤ iv A - g * V + V) (hV : V ≤ W n) (h2 : iv A - g * V + V < W n) :
    iv (lim n ((iv (lim n ((iv A - g * V) % W n).toNat) + V) % W n).toNat) = iv A - g * V + V := by
  have e1 : (iv A - g * V) % W n = iv A - g * V + W n := by
    rw [← Int.add_emod_right, Int.emod_eq_of_lt (by omega) (by omega)]
  have e3 : iv (lim n (iv A - g * V + W n).toNat) = iv A - g * V + W n := iv_lim (by omega) (by omega)
  rw [e1, e3]
  have e2 : (iv A - g * V + W n + V) % W n = iv A - g * V + V := by
    rw [show iv A - g * V + W n + V = (iv A - g * V + V) + W n by omega, Int.add_emod_right, Int.emod_eq_of_lt h1 h2]
  rw [e2, iv_lim h1 h2]
end Go.NatMath

/- Rows of whole numbers. -/
namespace Go.Abs
open Go Go.RowKit Go.NatMath
set_option linter.unusedVariables false
set_option linter.unusedSimpArgs false

theorem wrap_i64_in {x : Int} (h1 : -9223372036854775808 ≤ x) (h2 : x ≤ 9223372036854775807) : IntKind.i64.wrap x = x := by rw [IntKind.wrap_i64]; omega
theorem wrap_u64_in {x : Int} (h1 : 0 ≤ x) (h2 : x < 18446744073709551616) : IntKind.u64.wrap x = x := by
  simp only [IntKind.wrap, IntKind.bits, IntKind.signed, Bool.false_and, if_false, Bool.false_eq_true]
  exact Int.emod_eq_of_lt h1 (by simpa using h2)
theorem wrap_u32 (x : Int) : IntKind.u32.wrap x = x % 4294967296 := by
  simp [IntKind.wrap, IntKind.bits, IntKind.signed]
theorem wrap_u8 (x : Int) : IntKind.u8.wrap x = x % 256 := by
  simp [IntKind.wrap, IntKind.bits, IntKind.signed]
theorem wrap_u64 (x : Int) : IntKind.u64.wrap x = x % 18446744073709551616 := by
  simp [IntKind.wrap, IntKind.bits, IntKind.signed]

theorem cells_ints (k : IntKind) (L : List Int) (i : Nat) : (cellsOf ((ints k L).getD i .top)).length = 1 := by
  rcases Nat.lt_or_ge i L.length with h | h
  · rw [ints_getD k L i h]; rfl
  · simp [ints, List.getD_eq_getElem?_getD, List.getElem?_eq_none h, cellsOf]
theorem notAgg_ints (k : IntKind) (L : List Int) (i : Nat) : notAgg ((ints k L).getD i .top) = true := by
  rcases Nat.lt_or_ge i L.length with h | h
  · rw [ints_getD k L i h]; rfl
  · simp [ints, List.getD_eq_getElem?_getD, List.getElem?_eq_none h, notAgg]
theorem ints_set (k : IntKind) (L : List Int) (i : Nat) (v : Int) : (ints k L).set i (.val (.int k v)) = ints k (L.set i v) := by
  simp [ints, List.map_set, vInt]
theorem ints_append (k : IntKind) (L M : List Int) : ints k L ++ ints k M = ints k (L ++ M) := by simp [ints]
theorem ints_take (k : IntKind) (L : List Int) (n : Nat) : (ints k L).take n = ints k (L.take n) := by simp [ints]
theorem ints_drop (k : IntKind) (L : List Int) (n : Nat) : (ints k L).drop n = ints k (L.drop n) := by simp [ints]
theorem ints_replicate (k : IntKind) (n : Nat) (v : Int) : List.replicate n (.val (.int k v)) = ints k (List.replicate n v) := by simp [ints, vInt]
theorem ints_one (k : IntKind) (v : Int) : [AV.val (.int k v)] = ints k [v] := rfl
theorem lst_one (k : IntKind) (v : Int) : AV.lst [.val (.int k v)] = .lst (ints k [v]) := rfl
theorem ints_nil (k : IntKind) : ([] : List AV) = ints k [] := rfl
theorem elemOk_int (k : IntKind) (v : Int) : elemOk 1 (.val (.int k v)) = true := rfl
theorem elemOk_ints (k : IntKind) (L : List Int) : (ints k L).all (elemOk 1) = true := by
  rw [List.all_eq_true]
  intro x hx
  obtain ⟨n, _, rfl⟩ := List.mem_map.1 hx
  rfl
theorem ints_isEmpty (k : IntKind) (L : List Int) : (ints k L).isEmpty = L.isEmpty := by cases L <;> rfl
theorem uniB_ints (k : IntKind) (L : List Int) : uniB 1 (ints k L) = true := by
  rw [uniB, List.all_eq_true]
  intro x hx
  obtain ⟨n, _, rfl⟩ := List.mem_map.1 hx
  rfl

theorem aIndex_ints (k : IntKind) (h : Hp) (L : List Int) (i : Int) : aIndex 1 h (.lst (ints k L)) i = if 0 ≤ i ∧ i < L.length then some (.pe (.val (.int k (L.getD i.toNat 0)))) else none := by
  simp only [aIndex, ints_length, cells_ints, and_true]
  split
  · rename_i hc
    rw [ints_getD k L _ (by omega)]; rfl
  · rfl
theorem aIndex_own (sz : Nat) (h : Hp) (id : Nat) (i : Int) : aIndex sz h (.own id) i = (h id).bind fun b => if 0 ≤ i ∧ i < b.xs.length ∧ b.sz = sz then some (.po id i.toNat 0) else none := by
  cases hq : h id <;> simp [aIndex, hq]
theorem aIndex_ref (sz : Nat) (h : Hp) (id off len : Nat) (i : Int) : aIndex sz h (.ref id off len) i = (h id).bind fun b => if 0 ≤ i ∧ i < len ∧ b.sz = sz then some (.po id (off + i.toNat) 0) else none := by
  cases hq : h id <;> simp [aIndex, hq]
theorem aLoad_pe (sh : Sh) (h : Hp) (x : AV) : aLoad sh h (.pe x) = takeVar sh (cellsOf x) := rfl
theorem aLoad_po (sh : Sh) (h : Hp) (id i off : Nat) : aLoad sh h (.po id i off) = (h id).bind fun b => takeVar sh ((cellsOf (b.xs.getD i .top)).drop off) := by
  cases hq : h id <;> simp [aLoad, hq]
theorem aStore_int (k : IntKind) (h : Hp) (id i off : Nat) (v : AV) : aStore (.int k) h (.po id i off) v =
    (h id).bind fun b => if b.sz = 1 ∧ off = 0 ∧ notAgg v = true ∧ cellAV v = true ∧ i < b.xs.length ∧ notAgg (b.xs.getD i .top) = true then some (upd h id (some { b with xs := b.xs.set i v })) else none := by
  cases hq : h id <;> simp [aStore, hq]
theorem cellsOf_int (k : IntKind) (v : Int) : cellsOf (.val (.int k v)) = [.val (.int k v)] := rfl
theorem cellAV_int (k : IntKind) (v : Int) : cellAV (.val (.int k v)) = true := rfl
theorem notAgg_int (k : IntKind) (v : Int) : notAgg (.val (.int k v)) = true := rfl
theorem fnOf_func (f : FuncId) : fnOf (.val (.func (.func f) #[] #[])) = some f := rfl
theorem lenAV_own (h : Hp) (id : Nat) : lenAV h (.own id) = (h id).map fun b => (b.xs.length : Int) := rfl
theorem lenAV_lst (h : Hp) (xs : List AV) : lenAV h (.lst xs) = some (xs.length : Int) := rfl
theorem lenAV_ref (h : Hp) (id off len : Nat) : lenAV h (.ref id off len) = some (len : Int) := rfl
theorem lenAV_str (h : Hp) (s : ByteArray) : lenAV h (.val (.string s)) = some (s.size : Int) := rfl
theorem lenAV_nil (h : Hp) : lenAV h (.val (.slice none 0 0)) = some 0 := rfl
theorem killAll_nil (x : AV) : killAll [] x = x := by unfold killAll; split <;> simp
theorem eraseAll_nil (h : Hp) : eraseAll [] h = h := by funext i; simp [eraseAll]

/-! ### Numbers -/
def MAXL : Nat := 35184372088831
def U (n : Nat) : AV := .lst (ints .u32 (limbs n))
def okLb (L : List Int) : Bool := L.all fun x => decide (0 ≤ x) && decide (x < 4294967296)
theorem okLb_iff (L : List Int) : okLb L = true ↔ okL L := by simp [okLb, okL, List.all_eq_true]
def dec : AV → Option (List Int)
  | .lst xs => match asInts .u32 xs with
    | some L => if okLb L = true ∧ L.length ≤ MAXL then some L else none
    | none => none
  | _ => none
theorem dec_some {x : AV} {L : List Int} (h : dec x = some L) : x = .lst (ints .u32 L) ∧ okL L ∧ L.length ≤ MAXL := by
  unfold dec at h
  split at h
  · split at h
    · rename_i L' hL
      split at h
      · rename_i hc
        cases h
        exact ⟨by rw [asInts_some hL], (okLb_iff L).1 hc.1, hc.2⟩
      · cases h
    · cases h
  · cases h
theorem dec_ints {L : List Int} (h : okL L) (hl : L.length ≤ MAXL) : dec (.lst (ints .u32 L)) = some L := by
  simp only [dec, asInts_ints]
  rw [if_pos ⟨(okLb_iff L).2 h, hl⟩]
theorem dec_U {n : Nat} (hl : (limbs n).length ≤ MAXL) : dec (U n) = some (limbs n) := dec_ints (okL_limbs n) hl
theorem MAXL_val : MAXL = 35184372088831 := rfl

attribute [go_sem] ints_isEmpty List.isEmpty_cons st astep ev St.set upd_app slook_cons slook_nil hlook_cons hlook_nil lenAV_own lenAV_lst lenAV_ref lenAV_str lenAV_nil Option.map_some Option.bind_some vInt vBool vStr aBin iBin aUn aConv sBin map_ite_some intOf? aIndex_ints aIndex_own aIndex_ref aLoad_pe aLoad_po aStore_int takeVar ints_length ints_getD ints_set ints_take ints_drop ints_replicate lst_one ints_append bound? maxOk aSlice uniB_ints cellsOf_int cellAV_int notAgg_int notAgg_ints fnOf_func List.head?_cons List.drop_zero List.map_cons List.map_nil wrap_i64_in wrap_u64_in wrap_u32 wrap_u8 upd_hlook updL eq_self and_true true_and true_or or_true Int.toNat_natCast Int.toNat_zero frz scalarAV refId List.filterMap_cons List.filterMap_nil killAll_nil eraseAll_nil elems elemOk_ints Option.isNone_none List.getElem?_cons_zero List.getElem?_cons_succ Nat.add_zero Nat.zero_add args0 pickT

end Go.Abs

/- A region that draws its order. -/
namespace Go.Abs
open Go Go.RowKit
set_option linter.unusedVariables false
set_option linter.unusedSimpArgs false

/-- Operations whose result hangs on their operands and on what the own rows hold, and that write their slot alone. -/
def kindA : Op → Bool
  | .move _ | .assign _ | .pick .. | .binOp .. | .unOp .. | .convert .. | .extract .. | .indexAddr .. | .index .. | .load .. | .slice .. => true
  | .call { callee := .builtin .len, .. } | .call { callee := .builtin .max, .. } => true
  | _ => false
/-- .. on their operands alone. -/
def kindF : Op → Bool
  | .move _ | .assign _ | .pick .. | .binOp .. | .unOp .. | .extract .. => true
  | _ => false
def isStore : Op → Bool
  | .store .. => true
  | _ => false
/-- .. those that make a row of their own, and those that nothing may change places with. -/
def isMake : Op → Bool
  | .makeSlice .. => true
  | _ => false
def isW (op : Op) : Bool := isStore op || isMake op
def isX : Op → Bool
  | .call { callee := .builtin .append, .. } => true
  | _ => false
/-- What does not look at the rows: calls, too, that are handed none. -/
def hfree : Op → Bool
  | .call { callee := .value _, .. } => true
  | op => kindF op

section
variable {P : Program} {Θ : TypeId → Sh} {Γ : FuncId → Spec} {n : Nat} {M0 : Nat → Prop} {w0 : Bs}

def astepD (Θ : TypeId → Sh) (Γ : FuncId → Spec) (o : Oper) (σ : St) : Option St :=
  if kindA o.op = true ∨ (isStore o.op = true ∧ o.dst = none) ∨ isMake o.op = true ∨ isX o.op = true then astep Θ Γ o σ
  else match o.op with
    | .call c => match c.callee with
      | .value f => match fnOf (ev σ f) with
        | some f => match Γ f with
          | .pure sp => if ((c.args.toList.map (ev σ)).filterMap refId).isEmpty = true then (sp (c.args.toList.map fun x => frz (fun _ => none) (ev σ x))).map (σ.set o.dst) else none
          | _ => none
        | none => none
      | _ => none
    | _ => none

theorem frz_noref {h h' : Hp} {x : AV} (hx : refId x = none) : frz h x = frz h' x := by
  cases x <;> first | rfl | (exfalso; simp [refId] at hx; done) | (unfold frz; split <;> first | rfl | simp_all)

theorem set_killAll (σ : St) (d : Option Nat) (r : AV) : (⟨(St.set ⟨fun t => killAll [] (σ.t t), σ.h⟩ d r).t, eraseAll [] σ.h⟩ : St) = σ.set d r := by
  have e : (fun t => killAll [] (σ.t t)) = σ.t := by funext t; exact killAll_nil _
  rw [e, eraseAll_nil]
  cases d <;> rfl

theorem astepD_step {o : Oper} {σ σ' : St} (h : astepD Θ Γ o σ = some σ') : astep Θ Γ o σ = some σ' := by
  unfold astepD at h
  split at h
  · exact h
  · split at h
    · rename_i c ho
      split at h
      · rename_i f hc
        split at h
        · rename_i f' hf
          split at h
          · rename_i sp hsp
            split at h
            · rename_i hemp
              obtain ⟨r, hr, rfl⟩ := Option.map_eq_some_iff.1 h
              have hnil : (c.args.toList.map (ev σ)).filterMap refId = [] := List.isEmpty_iff.1 hemp
              have hargs : (c.args.toList.map (ev σ)).map (frz σ.h) = c.args.toList.map fun x => frz (fun _ => none) (ev σ x) := by
                rw [List.map_map]
                refine List.map_congr_left fun x hx => ?_
                refine frz_noref ?_
                cases hq : refId (ev σ x) with
                | none => rfl
                | some id =>
                  have : id ∈ (c.args.toList.map (ev σ)).filterMap refId := List.mem_filterMap.2 ⟨ev σ x, List.mem_map.2 ⟨x, hx, rfl⟩, hq⟩
                  rw [hnil] at this
                  cases this
              unfold astep
              rw [ho]
              simp only [hc, hf, aCall, hsp, hargs, hr]
              split
              · rfl
              · rw [hnil, set_killAll]
            · cases h
          · cases h
        · cases h
      · cases h
    · cases h

/-- The effect of such an operation, and on what it hangs. -/
theorem astepD_local {o : Oper} {σ σ' : St} (h : astepD Θ Γ o σ = some σ') :
    (isW o.op = false ∧ ∃ v, σ' = σ.set o.dst v ∧ ∀ σ2, (∀ x ∈ o.op.operands, ev σ2 x = ev σ x) → (hfree o.op = true ∨ σ2.h = σ.h) → astepD Θ Γ o σ2 = some (σ2.set o.dst v)) ∨
    (isW o.op = true ∧ ∃ v h', σ' = ⟨(σ.set o.dst v).t, h'⟩ ∧ ∀ σ2, (∀ x ∈ o.op.operands, ev σ2 x = ev σ x) → σ2.h = σ.h → astepD Θ Γ o σ2 = some ⟨(σ2.set o.dst v).t, h'⟩) ∨ isX o.op = true := by
  have h0 := h
  unfold astepD at h
  split at h
  · rename_i hk
    rcases hk with hk | ⟨hst, hdn⟩ | hmk | hx
    · left
      have key : ∀ (F : (Operand → AV) → Hp → Option AV), (∀ σ, astep Θ Γ o σ = (F (ev σ) σ.h).map (σ.set o.dst)) → (∀ e e' : Operand → AV, ∀ hh : Hp, (∀ x ∈ o.op.operands, e' x = e x) → F e' hh = F e hh) →
          (kindF o.op = true → ∀ e h1 h2, F e h1 = F e h2) →
          ∃ v, σ' = σ.set o.dst v ∧ ∀ σ2, (∀ x ∈ o.op.operands, ev σ2 x = ev σ x) → (hfree o.op = true ∨ σ2.h = σ.h) → astepD Θ Γ o σ2 = some (σ2.set o.dst v) := by
        intro F h1 h2 h3
        rw [h1] at h
        obtain ⟨v, hv, rfl⟩ := Option.map_eq_some_iff.1 h
        refine ⟨v, rfl, fun σ2 he hh => ?_⟩
        unfold astepD
        rw [if_pos (.inl hk), h1, h2 _ _ _ he]
        rcases hh with hh | hh
        · have hF : kindF o.op = true := by
            unfold hfree at hh
            split at hh
            · rename_i e; rw [e] at hk; simp [kindA] at hk
            · exact hh
          rw [h3 hF _ _ σ.h, hv]; rfl
        · rw [hh, hv]; rfl
      obtain ⟨dst, op, ty, pos, af, gd⟩ := o
      cases op <;> simp only [kindA, Bool.false_eq_true] at hk
      case move x => exact ⟨rfl, key (fun e _ => some (e x)) (fun σ => rfl) (fun e e' hh he => by simp [he x (by simp [Op.operands])]) (fun _ _ _ _ => rfl)⟩
      case assign x => exact ⟨rfl, key (fun e _ => some (e x)) (fun σ => rfl) (fun e e' hh he => by simp [he x (by simp [Op.operands])]) (fun _ _ _ _ => rfl)⟩
      case pick c x y => exact ⟨rfl, key (fun e _ => match e c with | .val (.bool b) => some (if b then e x else e y) | _ => none) (fun σ => by
          simp only [astep]; split <;> simp_all) (fun e e' hh he => by rw [he c (by simp [Op.operands]), he x (by simp [Op.operands]), he y (by simp [Op.operands])]) (fun _ _ _ _ => rfl)⟩
      case binOp op t x y yt => exact ⟨rfl, key (fun e _ => aBin op (Θ t) (e x) (e y)) (fun σ => rfl) (fun e e' hh he => by rw [he x (by simp [Op.operands]), he y (by simp [Op.operands])]) (fun _ _ _ _ => rfl)⟩
      case unOp op t x => exact ⟨rfl, key (fun e _ => aUn op (e x)) (fun σ => rfl) (fun e e' hh he => by rw [he x (by simp [Op.operands])]) (fun _ _ _ _ => rfl)⟩
      case convert s t x => exact ⟨rfl, key (fun e h => aConv (Θ s) (Θ t) (e x) h) (fun σ => rfl) (fun e e' hh he => by rw [he x (by simp [Op.operands])]) (fun hF => by simp [kindF] at hF)⟩
      case extract x i => exact ⟨rfl, key (fun e _ => match e x with | .tup xs => xs[i]? | _ => none) (fun σ => by simp only [astep]; split <;> simp_all) (fun e e' hh he => by rw [he x (by simp [Op.operands])]) (fun _ _ _ _ => rfl)⟩
      case indexAddr t x i => exact ⟨rfl, key (fun e h => match Θ t, intOf? (e i) with | .slice _ sz _ _ _, some i => aIndex sz h (e x) i | _, _ => none) (fun σ => by simp only [astep]; split <;> simp_all) (fun e e' hh he => by rw [he x (by simp [Op.operands]), he i (by simp [Op.operands])]) (fun hF => by simp [kindF] at hF)⟩
      case index t x i => exact ⟨rfl, key (fun e h => match Θ t, e x, intOf? (e i) with | .str, .val (.string s), some i => if h : 0 ≤ i ∧ i.toNat < s.size then some (vInt .u8 (s[i.toNat]'h.2).toNat) else none | _, _, _ => none) (fun σ => by
          simp only [astep]; split
          · split <;> simp_all
          · simp_all) (fun e e' hh he => by rw [he x (by simp [Op.operands]), he i (by simp [Op.operands])]) (fun hF => by simp [kindF] at hF)⟩
      case load t p => exact ⟨rfl, key (fun e h => aLoad (Θ t) h (e p)) (fun σ => rfl) (fun e e' hh he => by rw [he p (by simp [Op.operands])]) (fun hF => by simp [kindF] at hF)⟩
      case slice t x lo hi mx => exact ⟨rfl, key (fun e h => match lenAV h (e x) with
          | some n => match bound? e 0 lo, bound? e n hi with
            | some l, some m => if bound? e m mx = some m ∧ maxOk (Θ t) hi mx = true then aSlice (Θ t) h (e x) (some l) (some m) (some m) else none
            | _, _ => none
          | none => none) (fun σ => by
            simp only [astep]
            split
            · rename_i n hn
              split
              · rename_i l m hl hm
                simp only [hn, hl, hm]
                split <;> rfl
              · rename_i hno
                simp only [hn]
                first | rfl | (split <;> simp_all)
            · rename_i hn
              simp only [hn]
              rfl) (fun e e' hh he => by
            have hx := he x (by simp [Op.operands])
            have hlo : ∀ d, bound? e' d lo = bound? e d lo := fun d => by cases lo with
              | none => rfl
              | some y => simp only [bound?]; rw [he y (by simp [Op.operands])]
            have hhi : ∀ d, bound? e' d hi = bound? e d hi := fun d => by cases hi with
              | none => rfl
              | some y => simp only [bound?]; rw [he y (by simp [Op.operands])]
            have hmx : ∀ d, bound? e' d mx = bound? e d mx := fun d => by cases mx with
              | none => rfl
              | some y => simp only [bound?]; rw [he y (by simp [Op.operands])]
            rw [hx]
            simp only [hlo, hhi, hmx]) (fun hF => by simp [kindF] at hF)⟩
      case call c =>
        obtain ⟨cal, args, ats⟩ := c
        cases cal with
        | value f => simp at hk
        | invoke r m => simp at hk
        | builtin b =>
          cases b <;> simp at hk
          case len => exact ⟨rfl, key (fun e h => match ats.toList, args.toList with
              | [t], [x] => match Θ t with
                | .slice .. => match e x with
                  | .val (.string _) => none
                  | x => (lenAV h x).map fun n => vInt .i64 n
                | .str => match e x with
                  | .val (.string s) => some (vInt .i64 s.size)
                  | _ => none
                | _ => none
              | _, _ => none) (fun σ => by
                simp only [astep]
                split
                · split
                  · split
                    · simp_all
                    · simp_all [Option.map_map, Function.comp_def]
                  · split <;> simp_all
                  · simp_all
                · simp_all) (fun e e' hh he => by
                split
                · rename_i t x h1 h2
                  rw [he x (by
                    have : x ∈ args.toList := by rw [h2]; simp
                    simp [Op.operands, Call.operands]; simpa using this)]
                · rfl) (fun hF => by simp [kindF] at hF)⟩
          case max => exact ⟨rfl, key (fun e h => match args.toList with
              | [x, y] => match e x, e y with
                | .val (.int k a), .val (.int _ b) => some (vInt k (if b > a then b else a))
                | _, _ => none
              | _ => none) (fun σ => by
                simp only [astep]
                split
                · split <;> simp_all
                · simp_all) (fun e e' hh he => by
                split
                · rename_i x y h2
                  have hx : x ∈ args.toList := by rw [h2]; simp
                  have hy : y ∈ args.toList := by rw [h2]; simp
                  rw [he x (by simp [Op.operands, Call.operands]; simpa using hx), he y (by simp [Op.operands, Call.operands]; simpa using hy)]
                · rfl) (fun hF => by simp [kindF] at hF)⟩
    · right; left
      obtain ⟨dst, op, ty, pos, af, gd⟩ := o
      cases op <;> simp [isStore] at hst
      case store t p x =>
        simp only at hdn
        subst hdn
        simp only [astep] at h
        obtain ⟨h', hh', rfl⟩ := Option.map_eq_some_iff.1 h
        refine ⟨rfl, .top, h', rfl, fun σ2 he hh => ?_⟩
        unfold astepD
        rw [if_pos (.inr (.inl ⟨rfl, rfl⟩))]
        simp only [astep, he p (by simp [Op.operands]), he x (by simp [Op.operands]), hh, hh', Option.map_some]
    · right; left
      obtain ⟨dst, op, ty, pos, af, gd⟩ := o
      cases op <;> simp [isMake] at hmk
      case makeSlice t n m =>
        simp only [astep] at h
        split at h
        · rename_i e sz bytes z ek kl i kc j d hΘt hx hy
          split at h
          · rename_i hcnd
            cases h
            refine ⟨rfl, .own d, _, rfl, fun σ2 he hh => ?_⟩
            unfold astepD
            rw [if_pos (.inr (.inr (.inl rfl)))]
            simp only [astep, hΘt, he n (by simp [Op.operands]), he m (by simp [Op.operands]), hx, hy, hh]
            rw [if_pos hcnd]
            rfl
          · cases h
        · cases h
    · exact .inr (.inr hx)
  · left
    rename_i hnk
    split at h
    · rename_i c ho
      refine ⟨by rw [ho]; rfl, ?_⟩
      split at h
      · rename_i f hc
        split at h
        · rename_i f' hf
          split at h
          · rename_i sp hsp
            split at h
            · rename_i hemp
              obtain ⟨r, hr, rfl⟩ := Option.map_eq_some_iff.1 h
              refine ⟨r, rfl, fun σ2 he _ => ?_⟩
              have hfe : ev σ2 f = ev σ f := he f (by rw [ho]; simp [Op.operands, Call.operands, hc])
              have hae : ∀ x ∈ c.args.toList, ev σ2 x = ev σ x := fun x hx => he x (by rw [ho]; simp [Op.operands, Call.operands]; right; simpa using hx)
              have e1 : c.args.toList.map (ev σ2) = c.args.toList.map (ev σ) := List.map_congr_left hae
              have e2 : (c.args.toList.map fun x => frz (fun _ => none) (ev σ2 x)) = c.args.toList.map fun x => frz (fun _ => none) (ev σ x) := List.map_congr_left fun x hx => by rw [hae x hx]
              unfold astepD
              rw [if_neg hnk, ho]
              simp only [hc, hfe, hf, hsp, e1, e2, hr, Option.map_some]
              rw [if_pos hemp]
            · cases h
          · cases h
        · cases h
      · cases h
    · cases h

end
end Go.Abs

/- A region that draws its order: any order comes to what the text's comes to. -/
namespace Go.Abs
open Go Go.RowKit
set_option linter.unusedVariables false
set_option linter.unusedSimpArgs false

section
variable {P : Program} {Θ : TypeId → Sh} {Γ : FuncId → Spec} {n : Nat} {M0 : Nat → Prop} {w0 : Bs}

def readsB (o : Oper) (d : Option Nat) : Bool := match d with
  | some d => o.op.operands.any fun | .tmp t => t == d | _ => false
  | none => false
def sameDst (a b : Option Nat) : Bool := match a, b with
  | some a, some b => a == b
  | _, _ => false
def confB (o p : Oper) : Bool :=
  readsB o p.dst || readsB p o.dst || sameDst o.dst p.dst || (isW o.op && !hfree p.op) || (isW p.op && !hfree o.op) || isX o.op || isX p.op

theorem ev_set {σ : St} {o : Oper} {d : Option Nat} {v : AV} (h : readsB o d = false) : ∀ x ∈ o.op.operands, ev (σ.set d v) x = ev σ x := by
  intro x hx
  cases d with
  | none => rfl
  | some d =>
    cases x with
    | tmp t =>
      have : (t == d) = false := by
        unfold readsB at h
        rw [Array.any_eq_false'] at h
        have := h _ hx
        simpa using this
      have hne : t ≠ d := by simpa using this
      simp [ev, St.set, upd, hne]
    | _ => rfl

theorem ev_h {σ : St} {h' : Hp} (x : Operand) : ev ⟨σ.t, h'⟩ x = ev σ x := by cases x <;> rfl

theorem set_comm {σ : St} {d e : Option Nat} {u v : AV} (h : sameDst d e = false) : (σ.set d u).set e v = (σ.set e v).set d u := by
  cases d with
  | none => rfl
  | some d =>
    cases e with
    | none => rfl
    | some e =>
      have hne : d ≠ e := by simpa [sameDst] using h
      simp only [St.set, St.mk.injEq, and_true]
      funext j
      simp only [upd]
      by_cases h1 : j = e
      · subst h1; simp [Ne.symm hne]
      · by_cases h2 : j = d <;> simp [h1, h2, hne]

theorem sameDst_comm (a b : Option Nat) : sameDst a b = sameDst b a := by
  cases a with
  | none => cases b <;> rfl
  | some a => cases b with
    | none => rfl
    | some b =>
      simp only [sameDst]
      by_cases h : a = b
      · subst h; rfl
      · rw [beq_eq_false_iff_ne.2 h, beq_eq_false_iff_ne.2 (Ne.symm h)]

/-- Two operations that don't meet may change places. -/
theorem astepD_comm {o p : Oper} {σ σ1 σ2 : St} (hc : confB o p = false) (h1 : astepD Θ Γ o σ = some σ1) (h2 : astepD Θ Γ p σ1 = some σ2) :
    ∃ τ, astepD Θ Γ p σ = some τ ∧ astepD Θ Γ o τ = some σ2 := by
  simp only [confB, Bool.or_eq_false_iff] at hc
  obtain ⟨⟨⟨⟨⟨⟨c1, c2⟩, c3⟩, c4⟩, c5⟩, c6⟩, c7⟩ := hc
  have nX : ∀ {q : Oper}, isX q.op = false → isX q.op = true → False := fun a b => by rw [a] at b; cases b
  rcases astepD_local h1 with ⟨s1, v1, rfl, l1⟩ | ⟨s1, v1, h1', rfl, l1⟩ | hx1
  · rcases astepD_local h2 with ⟨s2, v2, rfl, l2⟩ | ⟨s2, v2, h2', rfl, l2⟩ | hx2
    · have e2 : ∀ x ∈ p.op.operands, ev σ x = ev (σ.set o.dst v1) x := fun x hx => (ev_set c2 x hx).symm
      refine ⟨σ.set p.dst v2, l2 σ e2 (.inr (by rw [St.set_h])), ?_⟩
      rw [l1 (σ.set p.dst v2) (fun x hx => ev_set c1 x hx) (.inr (by rw [St.set_h])), set_comm (by rw [sameDst_comm]; exact c3)]
    · have hF : hfree o.op = true := by simpa [s2] using c5
      have e2 : ∀ x ∈ p.op.operands, ev σ x = ev (σ.set o.dst v1) x := fun x hx => (ev_set c2 x hx).symm
      refine ⟨⟨(σ.set p.dst v2).t, h2'⟩, l2 σ e2 (by rw [St.set_h]), ?_⟩
      rw [l1 ⟨(σ.set p.dst v2).t, h2'⟩ (fun x hx => (ev_h x).trans (ev_set c1 x hx)) (.inl hF)]
      have hcm := congrArg St.t (set_comm (σ := σ) (u := v1) (v := v2) c3)
      have e : ∀ (d : Option Nat) (t : Nat → AV) (h1 h2 : Hp) (u : AV), St.set ⟨t, h1⟩ d u = ⟨(St.set ⟨t, h2⟩ d u).t, h1⟩ := by intro d t h1 h2 u; cases d <;> rfl
      rw [e o.dst _ h2' (σ.set p.dst v2).h]
      exact congrArg some (congrArg (fun t => (⟨t, h2'⟩ : St)) hcm.symm)
    · exact (nX c7 hx2).elim
  · rcases astepD_local h2 with ⟨s2, v2, rfl, l2⟩ | ⟨s2, v2, h2', rfl, l2⟩ | hx2
    · have hF : hfree p.op = true := by simpa [s1] using c4
      have e2 : ∀ x ∈ p.op.operands, ev σ x = ev ⟨(σ.set o.dst v1).t, h1'⟩ x := fun x hx => ((ev_h x).trans (ev_set c2 x hx)).symm
      refine ⟨σ.set p.dst v2, l2 σ e2 (.inl hF), ?_⟩
      rw [l1 (σ.set p.dst v2) (fun x hx => ev_set c1 x hx) (by rw [St.set_h])]
      have hcm := congrArg St.t (set_comm (σ := σ) (u := v1) (v := v2) c3)
      have e : ∀ (d : Option Nat) (t : Nat → AV) (h1 h2 : Hp) (u : AV), St.set ⟨t, h1⟩ d u = ⟨(St.set ⟨t, h2⟩ d u).t, h1⟩ := by intro d t h1 h2 u; cases d <;> rfl
      rw [e p.dst _ h1' (σ.set o.dst v1).h]
      exact congrArg some (congrArg (fun t => (⟨t, h1'⟩ : St)) hcm.symm)
    · exfalso
      have : hfree p.op = false := by
        cases hp : p.op <;> simp [isW, isStore, isMake, hp] at s2 <;> rfl
      simp [s1, this] at c4
    · exact (nX c7 hx2).elim
  · exact (nX c6 hx1).elim

def runL (Θ : TypeId → Sh) (Γ : FuncId → Spec) (ops : Array Oper) : List Nat → St → Option St
  | [], σ => some σ
  | i :: l, σ => match ops[i]? with
    | some o => match astepD Θ Γ o σ with
      | some σ' => runL Θ Γ ops l σ'
      | none => none
    | none => none

def confI (ops : Array Oper) (i j : Nat) : Bool := match ops[i]?, ops[j]? with
  | some o, some p => confB o p
  | _, _ => false

theorem run_front {ops : Array Oper} {i : Nat} {ks : List Nat} {σm : St} : ∀ (js : List Nat) (σ : St), (∀ j ∈ js, confI ops j i = false) → runL Θ Γ ops (js ++ i :: ks) σ = some σm → runL Θ Γ ops (i :: js ++ ks) σ = some σm
  | [], σ, _, h => h
  | j :: js, σ, hc, h => by
    simp only [List.cons_append, runL] at h
    split at h
    · rename_i o ho
      split at h
      · rename_i σ1 h1
        have ih := run_front js σ1 (fun x hx => hc x (by simp [hx])) h
        simp only [List.cons_append, runL] at ih
        split at ih
        · rename_i p hp
          split at ih
          · rename_i σ2 h2
            have hcf := hc j (by simp)
            unfold confI at hcf
            rw [ho, hp] at hcf
            obtain ⟨τ, k1, k2⟩ := astepD_comm hcf h1 h2
            simp only [List.cons_append, runL, hp, k1, ho, k2]
            exact ih
          · cases ih
        · cases ih
      · cases h
    · cases h

/-- Does operation `d` wait for operation `i`? -/
def waitsB (ops : Array Oper) (i : Nat) : Nat → Nat → Bool
  | 0, _ => false
  | fuel + 1, d => match ops[d]? with
    | some o => o.after.any fun e => Region.binds .any e && (e.on == i || waitsB ops i fuel e.on)
    | none => false

def drawOk (ops : Array Oper) : Bool :=
  (List.range ops.size).all fun j => (match ops[j]? with | some o => o.guard.isNone && o.after.all (fun e => !Region.binds .any e || decide (e.on < j)) | none => true) &&
    (List.range j).all fun i => !confI ops i j || waitsB ops i ops.size j

def remL (ops : Array Oper) (listed : Array Bool) : List Nat := (List.range ops.size).filter fun i => !listed.getD i true

def closedL (ops : Array Oper) (listed : Array Bool) : Prop := ∀ j o, ops[j]? = some o → listed.getD j false = true → ∀ e ∈ o.after, Region.binds .any e = true → listed.getD e.on false = true

theorem waits_listed {ops : Array Oper} {listed : Array Bool} {i : Nat} (hc : closedL ops listed) : ∀ (fuel d : Nat), waitsB ops i fuel d = true → (∀ o, ops[d]? = some o → ∀ e ∈ o.after, Region.binds .any e = true → listed.getD e.on false = true) → listed.getD i false = true
  | 0, _, h, _ => by simp [waitsB] at h
  | fuel + 1, d, h, hd => by
    unfold waitsB at h
    split at h
    · rename_i o ho
      obtain ⟨e, he, h1⟩ := Array.any_eq_true'.1 h
      simp only [Bool.and_eq_true, Bool.or_eq_true, beq_iff_eq] at h1
      have hl := hd o ho e he h1.1
      rcases h1.2 with h2 | h2
      · rw [← h2]; exact hl
      · exact waits_listed hc fuel e.on h2 (fun o' ho' => hc e.on o' ho' hl)
    · cases h

theorem filter_split {p : Nat → Bool} {i : Nat} : ∀ {l : List Nat}, l.Pairwise (· < ·) → i ∈ l → p i = true →
    ∃ js ks, l.filter p = js ++ i :: ks ∧ (∀ j ∈ js, j < i ∧ j ∈ l ∧ p j = true) ∧ l.filter (fun x => p x && x != i) = js ++ ks
  | x :: l, hp, hi, h => by
    have hp' := List.pairwise_cons.1 hp
    rcases List.mem_cons.1 hi with rfl | hi
    · refine ⟨[], l.filter p, by simp [h], by simp, ?_⟩
      rw [List.filter_cons, if_neg (by simp), List.nil_append]
      refine List.filter_congr fun y hy => ?_
      have := hp'.1 y hy
      have hne : y ≠ i := by omega
      simp [hne]
    · obtain ⟨js, ks, h1, h2, h3⟩ := filter_split hp'.2 hi h
      have hlt := hp'.1 i hi
      have hne : x ≠ i := by omega
      by_cases hx : p x = true
      · refine ⟨x :: js, ks, by simp [List.filter_cons, hx, h1], fun j hj => ?_, by simp [List.filter_cons, hx, hne, h3]⟩
        rcases List.mem_cons.1 hj with rfl | hj
        · exact ⟨hlt, by simp, hx⟩
        · exact ⟨(h2 j hj).1, by simp [(h2 j hj).2.1], (h2 j hj).2.2⟩
      · refine ⟨js, ks, by simp [List.filter_cons, hx, h1], fun j hj => ⟨(h2 j hj).1, by simp [(h2 j hj).2.1], (h2 j hj).2.2⟩, by simp [List.filter_cons, hx, h3]⟩

theorem rem_set {ops : Array Oper} {listed : Array Bool} {i : Nat} (hl : listed.size = ops.size) (hi : i < ops.size) : remL ops (listed.setIfInBounds i true) = (List.range ops.size).filter fun x => !listed.getD x true && x != i := by
  unfold remL
  refine List.filter_congr fun x hx => ?_
  by_cases hxi : x = i
  · subst hxi
    simp [hl, hi]
  · have : (listed.setIfInBounds i true).getD x true = listed.getD x true := getD_set_ne true (Ne.symm hxi)
    rw [this]
    simp [hxi]

variable {N : St → Prop} {X : Nat → St → Prop} {R : St → Prop}

theorem any_sound (hΘ : ∀ t, ShOK P t (Θ t)) (hΓ : ∀ f, SpecOK P f (Γ f)) {ops : Array Oper} (hd : dstsOk n ops.toList = true) (hok : drawOk ops = true) {σm : St} (hN : N σm) :
    ∀ (fuel : Nat) (listed : Array Bool) (σ : St) (ρ : Nat → Value) (a : Act) (w : World), listed.size = ops.size → closedL ops listed → (remL ops listed).length ≤ fuel → Sim n M0 w0 ρ σ a w → runL Θ Γ ops (remL ops listed) σ = some σm →
      wpAny P .any ops (Post n M0 w0 N X R) fuel listed a w := by
  have hrdy : ∀ (listed : Array Bool), listed.size = ops.size → Region.ready .any ops listed = [] → remL ops listed = [] := by
    intro listed hsz hr
    cases hrem : remL ops listed with
    | nil => rfl
    | cons i l =>
      exfalso
      have hi : i ∈ remL ops listed := by rw [hrem]; simp
      obtain ⟨hi1, hi2⟩ := List.mem_filter.1 hi
      have hilt : i < ops.size := List.mem_range.1 hi1
      have hmin : ∀ j, j < i → listed.getD j true = true := by
        intro j hj
        cases hq : listed.getD j true with
        | true => rfl
        | false =>
          exfalso
          have hjm : j ∈ remL ops listed := List.mem_filter.2 ⟨List.mem_range.2 (by omega), by rw [hq]; rfl⟩
          have hpw : (remL ops listed).Pairwise (· < ·) := List.Pairwise.filter _ List.pairwise_lt_range
          rw [hrem] at hpw hjm
          rcases List.mem_cons.1 hjm with rfl | hjm
          · omega
          · have := (List.pairwise_cons.1 hpw).1 j hjm; omega
      have : i ∈ Region.ready .any ops listed := by
        rw [mem_ready]
        refine ⟨by simpa using hi2, ops[i], by simp [hilt], fun e he hb => ?_⟩
        have h1 := List.all_eq_true.1 hok i (List.mem_range.2 hilt)
        simp only [Bool.and_eq_true] at h1
        have h2 := h1.1
        rw [Array.getElem?_eq_getElem hilt] at h2
        simp only [Bool.and_eq_true] at h2
        have h3 := Array.all_eq_true_iff_forall_mem.1 h2.2 e he
        simp only [hb, Bool.not_true, Bool.false_or, decide_eq_true_eq] at h3
        have h4 := hmin e.on h3
        have hlt : e.on < listed.size := by omega
        simpa [hlt] using h4
      rw [hr] at this
      cases this
  intro fuel
  induction fuel with
  | zero =>
    intro listed σ ρ a w hsz hcl hf hs hrun
    have hrem : remL ops listed = [] := List.eq_nil_of_length_eq_zero (by omega)
    rw [hrem] at hrun
    cases hrun
    refine ⟨?_, ⟨ρ, σm, hs, hN⟩⟩
    cases hr : Region.ready .any ops listed with
    | nil => rfl
    | cons i l =>
      exfalso
      have hi : i ∈ Region.ready .any ops listed := by rw [hr]; simp
      obtain ⟨h1, o, ho, _⟩ := mem_ready.1 hi
      have : i ∈ remL ops listed := List.mem_filter.2 ⟨List.mem_range.2 (Array.getElem?_eq_some_iff.1 ho).1, by rw [h1]; rfl⟩
      rw [hrem] at this
      cases this
  | succ fuel ih =>
    intro listed σ ρ a w hsz hcl hf hs hrun
    refine ⟨fun hr => ?_, fun i hi => ?_⟩
    · rw [hrdy listed hsz hr] at hrun
      cases hrun
      exact ⟨ρ, σm, hs, hN⟩
    · obtain ⟨hiu, o, ho, hpre⟩ := mem_ready.1 hi
      have hilt : i < ops.size := (Array.getElem?_eq_some_iff.1 ho).1
      obtain ⟨js, ks, e1, e2, e3⟩ := filter_split (p := fun x => !listed.getD x true) (i := i) List.pairwise_lt_range (List.mem_range.2 hilt) (by rw [hiu]; rfl)
      have hconf : ∀ j ∈ js, confI ops j i = false := by
        intro j hj
        obtain ⟨q1, q2, q3⟩ := e2 j hj
        cases hq : confI ops j i with
        | false => rfl
        | true =>
          exfalso
          have h1 := List.all_eq_true.1 hok i (List.mem_range.2 hilt)
          simp only [Bool.and_eq_true] at h1
          have h2 := List.all_eq_true.1 h1.2 j (List.mem_range.2 q1)
          rw [hq] at h2
          simp only [Bool.not_true, Bool.false_or] at h2
          have h3 := waits_listed hcl _ _ h2 (fun o' ho' e he hb => by rw [ho] at ho'; cases ho'; exact hpre e he hb)
          have hjlt : j < listed.size := by rw [hsz]; exact List.mem_range.1 q2
          simp [hjlt] at h3 q3
          rw [h3] at q3
          cases q3
      have hrun' : runL Θ Γ ops (js ++ i :: ks) σ = some σm := by rw [← e1]; exact hrun
      have hfr := run_front js σ hconf hrun'
      simp only [List.cons_append, runL, ho] at hfr
      split at hfr
      · rename_i σ1 h1
        have hgd : o.guard = none := by
          have h1 := List.all_eq_true.1 hok i (List.mem_range.2 hilt)
          simp only [Bool.and_eq_true] at h1
          have h2 := h1.1
          rw [ho] at h2
          simp only [Bool.and_eq_true, Option.isNone_iff_eq_none] at h2
          exact h2.1
        have hdo : ∀ t, o.dst = some t → t < n := fun t ht => by
          have := List.all_eq_true.1 hd o (by simpa using Array.mem_of_getElem? ho)
          rw [ht] at this
          simpa using this
        unfold wpOp
        simp only [ho]
        rw [if_pos (by simp [Region.wanted, hgd])]
        refine .inl (Oper.wp_mono (fun a' w' ⟨ρ', hs'⟩ => ?_) (astep_sound hΘ hΓ hdo hs (astepD_step h1)))
        refine ih _ σ1 ρ' a' w' (by simpa using hsz) ?_ ?_ hs' ?_
        · intro j oj hj hl e he hb
          by_cases hij : i = j
          · subst hij
            rw [ho] at hj
            cases hj
            exact getD_set_true (hpre e he hb)
          · rw [getD_set_ne false hij] at hl
            exact getD_set_true (hcl j oj hj hl e he hb)
        · rw [rem_set hsz hilt, e3]
          have : (remL ops listed).length = (js ++ i :: ks).length := by rw [← e1]; rfl
          simp at this ⊢
          omega
        · rw [rem_set hsz hilt, e3]
          exact hfr
      · cases hfr

def arunD (Θ : TypeId → Sh) (Γ : FuncId → Spec) : List Oper → St → (St → Prop) → Prop
  | [], σ, K => K σ
  | o :: rest, σ, K => ∃ σ', astepD Θ Γ o σ = some σ' ∧ arunD Θ Γ rest σ' K
theorem arunD_nil {K : St → Prop} {σ : St} (h : K σ) : arunD Θ Γ [] σ K := h
theorem arunD_step {K : St → Prop} {σ σ' : St} {o : Oper} {rest : List Oper} (h : astepD Θ Γ o σ = some σ') (k : arunD Θ Γ rest σ' K) : arunD Θ Γ (o :: rest) σ K := ⟨σ', h, k⟩
theorem arunD_if {K : St → Prop} {σ σ' : St} {o : Oper} {rest : List Oper} {c : Prop} {i : Decidable c} (h : astepD Θ Γ o σ = @ite _ c i (some σ') none) (hc : c) (k : arunD Θ Γ rest σ' K) : arunD Θ Γ (o :: rest) σ K :=
  ⟨σ', by rw [h, if_pos hc], k⟩
theorem arunD_ifn {K : St → Prop} {σ σ' : St} {o : Oper} {rest : List Oper} {c : Prop} {i : Decidable c} (h : astepD Θ Γ o σ = @ite _ c i none (some σ')) (hc : ¬ c) (k : arunD Θ Γ rest σ' K) : arunD Θ Γ (o :: rest) σ K :=
  ⟨σ', by rw [h, if_neg hc], k⟩

theorem arunD_run {ops : Array Oper} {K : St → Prop} : ∀ (l : List Oper) (k : Nat) (σ : St), (∀ j, l[j]? = ops[k + j]?) → arunD Θ Γ l σ K → ∃ σm, runL Θ Γ ops (List.range' k l.length) σ = some σm ∧ K σm
  | [], k, σ, _, h => ⟨σ, rfl, h⟩
  | o :: l, k, σ, hl, h => by
    obtain ⟨σ', h1, h2⟩ := h
    have h0 : ops[k]? = some o := by simpa using (hl 0).symm
    obtain ⟨σm, h3, h4⟩ := arunD_run l (k + 1) σ' (fun j => by have := hl (j + 1); simpa [Nat.add_assoc, Nat.add_comm 1 j] using this) h2
    refine ⟨σm, ?_, h4⟩
    simp only [List.length_cons, List.range'_succ, runL, h0, h1]
    exact h3

theorem awp_draw {id : Nat} {l : List Oper} {σ : St} (live : List Nat) (hΘ : ∀ t, ShOK P t (Θ t)) (hΓ : ∀ f, SpecOK P f (Γ f)) (hm : P.follows .mixedOrders = true) (hd : dstsOk n l = true) (hok : drawOk l.toArray = true)
    (h : arunD Θ Γ l σ fun σ' => N ⟨slook (pickT live σ'.t), σ'.h⟩) : AWP P n M0 w0 (.region id l.toArray true) N X R σ := fun ρ a w hs => by
  obtain ⟨σm, h1, h2⟩ := arunD_run (ops := l.toArray) l 0 σ (by simp) h
  have hsd : Sim n M0 w0 ρ σ a { w with drawn := w.drawn + 1 } := by
    have hB : Below w.heap.size w { w with drawn := w.drawn + 1 } := ⟨rfl, rfl, rfl, Nat.le_refl _, fun _ _ => rfl⟩
    exact ⟨hs.size, hs.defers, hs.hp.grow hB, fun t => (hs.tm t).grow hB⟩
  have hrem : remL l.toArray (Array.replicate l.toArray.size false) = List.range' 0 l.length := by
    unfold remL
    rw [List.filter_eq_self.2 (fun x hx => by
      have := List.mem_range.1 hx
      simp at this
      simp [this]), List.range_eq_range']
    simp
  have key := any_sound (P := P) (M0 := M0) (w0 := w0) (N := fun σ => N ⟨slook (pickT live σ.t), σ.h⟩) (X := X) (R := R) hΘ hΓ (ops := l.toArray) (by simpa using hd) hok h2 l.toArray.size (Array.replicate l.toArray.size false) σ ρ a { w with drawn := w.drawn + 1 } (by simp)
    (fun j o hj hl => by
      exfalso
      rcases Nat.lt_or_ge j l.toArray.size with h | h
      · simp at h; simp [h] at hl
      · simp at h; simp [h] at hl) (by rw [hrem]; simp) hsd (by rw [hrem]; exact h1)
  refine wp_mono (wp_region_any hm key) fun e a w q => ?_
  cases e with
  | normal =>
    obtain ⟨ρ, σ, h1, h2⟩ := q
    exact ⟨ρ, _, h1.forget (fun p hp => by
      obtain ⟨s, _, rfl⟩ := List.mem_map.1 hp
      rfl), h2⟩
  | _ => exact q

attribute [go_sem] kill List.length_nil List.length_cons List.nil_append List.append_nil ne_eq not_false_eq_true not_true_eq_false Option.isNone_some
attribute [go_sem] astepD kindA isStore isMake isX kindF or_false false_or and_false false_and if_true if_false List.isEmpty_nil Bool.false_eq_true

end
end Go.Abs

/- Functions that write into a row that they are handed. -/
namespace Go.Abs
open Go Go.RowKit Go.NatMath
set_option linter.unusedVariables false
set_option linter.unusedSimpArgs false

section
variable {P : Program} {n : Nat}

/-- What such a function does: by the rest of its arguments and what the part of the row holds, what it answers and what the part holds afterwards. -/
def spInpl (k : IntKind) (f : List AV → List Int → Option (AV × List Int)) : List AV → Hp → Option (AV × Hp)
  | .own id :: rest, h => (h id).bind fun b => (asInts k b.xs).bind fun L => (f rest L).bind fun p =>
      if p.2.length = L.length ∧ b.sz = 1 ∧ rest.all (fun x => (refId x).isNone) = true ∧ scalarAV p.1 = true then some (p.1, upd h id (some { b with xs := ints k p.2 })) else none
  | .ref id off len :: rest, h => (h id).bind fun b => (asInts k b.xs).bind fun L => (f rest ((L.drop off).take len)).bind fun p =>
      if off + len ≤ L.length ∧ p.2.length = len ∧ b.sz = 1 ∧ rest.all (fun x => (refId x).isNone) = true ∧ scalarAV p.1 = true then some (p.1, upd h id (some { b with xs := ints k (L.take off ++ p.2 ++ L.drop (off + len)) })) else none
  | _, _ => none

theorem asInts_eq {k : IntKind} {xs : List AV} {L : List Int} (h : asInts k xs = some L) : xs = ints k L := asInts_some h

theorem rep_ints {w w' : World} {M M' : Nat → Prop} (k : IntKind) : ∀ (L : List Int) (vs : List Value), RepL w M (flat (ints k L)) vs → RepL w' M' (flat (ints k L)) vs := by
  intro L vs h
  refine ⟨h.1, fun i x v hx hv => ?_⟩
  have hr := h.2 i x v hx hv
  have : ∀ (L : List Int) (x : AV), x ∈ flat (ints k L) → ∃ n, x = vInt k n := by
    intro L
    induction L with
    | nil => intro x hx; simp [ints, flat] at hx
    | cons n L ih =>
      intro x hx
      simp only [ints, List.map_cons, flat, cellsOf, vInt, List.mem_append, List.mem_singleton] at hx
      rcases hx with hx | hx
      · exact ⟨n, hx⟩
      · exact ih x hx
  obtain ⟨m, rfl⟩ := this L x (List.mem_of_getElem? hx)
  cases hr
  exact .val _

theorem inpl_of_awp {f : FuncId} {fn : Func} {c : Code} {k : IntKind} {sp : List AV → List Int → Option (AV × List Int)} (rs : List Nat) (hf : P.funcs[f]? = some fn) (hb : fn.body = some c) (hn : fn.ntmps = n) (hres : fn.results = (rs.map ResultVar.tmp).toArray)
    (h : ∀ (M0 : Nat → Prop) (w0 : Bs) (e : TypeId) (hdr : Option Value) (rest : List AV) (off len : Nat) (L S : List Int) (r : AV), off + len ≤ L.length → sp rest ((L.drop off).take len) = some (r, S) → S.length = len → scalarAV r = true → rest.length + 1 ≤ n ∧
      AWP P n M0 w0 c (fun σ => Res rs σ = r ∧ σ.h 1000 = some ⟨e, 1, ints k (L.take off ++ S ++ L.drop (off + len)), hdr⟩) (fun _ _ => False) (fun σ => Res rs σ = r ∧ σ.h 1000 = some ⟨e, 1, ints k (L.take off ++ S ++ L.drop (off + len)), hdr⟩)
        (st (args0 (.ref 1000 off len :: rest) 0) [(1000, ⟨e, 1, ints k L, hdr⟩)])) :
    InplOK P f (spInpl k sp) := by
  intro M0 w0 ρ h0 h' args vs w r hH hR hsp
  -- the part that is handed over, the same for both forms
  have main : ∀ (id : Nat) (b : Buf) (L S : List Int) (off len : Nat) (rest : List AV) (x : AV) (v : Value) (vs : List Value), h0 id = some b → b.xs = ints k L → b.sz = 1 → off + len ≤ L.length → sp rest ((L.drop off).take len) = some (r, S) → S.length = len → scalarAV r = true →
      rest.all (fun x => (refId x).isNone) = true → RepT w (inM M0 ρ h0) ρ h0 (.ref id off len) v → RepTL w (inM M0 ρ h0) ρ h0 rest vs →
      h' = upd h0 id (some { b with xs := ints k (L.take off ++ S ++ L.drop (off + len)) }) →
      Calls P f (v :: vs).toArray w fun e w' => ∃ v, e = .returned v ∧ SimH M0 w0 ρ h' w' ∧ Rep w' (inM M0 ρ h') r v ∧ w.heap.size ≤ w'.heap.size ∧ (∀ k, k < w.heap.size → ¬ inM M0 ρ h0 k → w'.heap[k]? = w.heap[k]?) ∧
      (∀ id, (h0 id = none ↔ h' id = none) ∧ ∀ b, h0 id = some b → ∃ b', h' id = some b' ∧ b'.sz = b.sz ∧ b'.xs.length = b.xs.length) := by
    intro id b L S off len rest x v vs hid hxs hsz hol hspS hSl hrs hrest hv hvs hh'
    let F : Nat → Prop := fun k => (ρ id).ownBlock ≠ some k
    let w1 : Bs := ⟨w, w0.base, F, hH.below.base_le⟩
    obtain ⟨hl, hA⟩ := h M0 w1 b.e (some (ρ id)) rest off len L S r hol hspS hSl hrs
    have hB := hH.own id b hid
    have hlen : rest.length = vs.length := hvs.1
    refine calls_of_wp hf hb ?_
    rw [hn]
    -- the state that it begins with
    have hin : ∀ k', inM M0 (fun _ => ρ id) (hlook [(1000, ⟨b.e, 1, ints k L, some (ρ id)⟩)]) k' → inM M0 ρ h0 k' := fun k' hk => by
      rcases hk with hk | ⟨i, bf, h1, h2⟩
      · exact .inl hk
      · exact .inr ⟨id, b, hid, h2⟩
    have hS : Sim n M0 w1 (fun _ => ρ id) (st (args0 (.ref 1000 off len :: rest) 0) [(1000, ⟨b.e, 1, ints k L, some (ρ id)⟩)]) { tmps := (v :: vs).toArray ++ Array.replicate (n - (v :: vs).toArray.size) undef, defers := [] } w := by
      refine ⟨by simp [← hlen]; omega, rfl, ⟨⟨rfl, rfl, rfl, Nat.le_refl _, fun _ _ _ => rfl⟩, fun i bf k' hi hk hc => hc.2 hk, fun i bf u hi hu => ?_, hH.m0, fun i bf hi => ?_, fun i j bi bj k' hij hi hj _ _ => ?_⟩, fun t => ?_⟩
      · simp only [st, hlook] at hi
        split at hi
        · cases hi; cases hu; rfl
        · cases hi
      · simp only [st, hlook] at hi
        split at hi
        · cases hi
          obtain ⟨q1, q2, us, q3, q4⟩ := hB
          rw [hxs, hsz] at q1 q3
          rw [hxs] at q4
          refine ⟨q1, by simp, us, q3, rep_ints k L us q4⟩
        · cases hi
      · simp only [st, hlook] at hi hj
        split at hi
        · split at hj
          · omega
          · cases hj
        · cases hi
      · show RepT w _ _ _ (slook (args0 (.ref 1000 off len :: rest) 0) t) _
        rw [slook_args]
        split
        · rename_i ht
          have hlt : t < (v :: vs).length := by simp only [List.length_cons] at ht ⊢; omega
          have hvv : ((v :: vs).toArray ++ Array.replicate (n - (v :: vs).toArray.size) undef).getD t undef = (v :: vs)[t] := by
            simp only [Array.getD_eq_getD_getElem?, Array.getElem?_append, List.size_toArray, hlt, if_true, List.getElem?_toArray, List.getElem?_eq_getElem, Option.getD_some]
          rw [hvv]
          cases t with
          | zero =>
            obtain ⟨b0, h1, h2, a, c, h3, h4, h5⟩ := hv
            rw [hid] at h1
            cases h1
            refine ⟨⟨b.e, 1, ints k L, some (ρ id)⟩, rfl, by simpa [ints_length] using hol, a, c, h3, h4, fun h0 => ?_⟩
            obtain ⟨g, m, cap, h6, h7⟩ := h5 h0
            exact ⟨g, m, cap, h6, by rw [h7, hsz]⟩
          | succ t =>
            have ht' : t < rest.length := by simp only [List.length_cons] at ht; omega
            have hx : rest[t]? = some (rest.getD t .top) := by simp [List.getD_eq_getElem?_getD, List.getElem?_eq_getElem ht']
            have hvt : t < vs.length := by omega
            have hrr := hvs.2 t _ _ hx (List.getElem?_eq_getElem hvt)
            have hno : refId (rest.getD t .top) = none := by
              have := List.all_eq_true.1 hrest _ (List.mem_of_getElem? hx)
              simpa using this
            simp only [Nat.sub_zero, List.getD_cons_succ, List.getElem_cons_succ]
            exact RepT.of_rep ((RepT.rep hno hrr).keep (Nat.le_refl _) (fun _ _ _ => rfl) (fun b' _ hb => hin b' hb))
        · exact RepT.of_rep (.top _)
    refine wp_mono (hA _ _ _ hS) fun e a w' q => ?_
    have fin : ∀ {ρ' σ}, Sim n M0 w1 ρ' σ a w' → (Res rs σ = r ∧ σ.h 1000 = some ⟨b.e, 1, ints k (L.take off ++ S ++ L.drop (off + len)), some (ρ id)⟩) → a.defers = [] ∧ ∃ v, (results fn a.tmps).run P w' = .ok v w' ∧ ∃ v', Ending.returned v = .returned v' ∧ SimH M0 w0 ρ h' w' ∧ Rep w' (inM M0 ρ h') r v' ∧ w.heap.size ≤ w'.heap.size ∧ (∀ k, k < w.heap.size → ¬ inM M0 ρ h0 k → w'.heap[k]? = w.heap[k]?) ∧
      (∀ id, (h0 id = none ↔ h' id = none) ∧ ∀ b, h0 id = some b → ∃ b', h' id = some b' ∧ b'.sz = b.sz ∧ b'.xs.length = b.xs.length) := by
      rintro ρ' σ hs ⟨hr, hh⟩
      have hρ : ρ' 1000 = ρ id := hs.hp.hdr 1000 _ _ hh rfl
      obtain ⟨q1, q2, us, q3, q4⟩ := hs.hp.own 1000 _ hh
      rw [hρ] at q3
      have hxl : (L.take off ++ S ++ L.drop (off + len)).length = L.length := by simp; omega
      have hk : ∀ k', k' < w.heap.size → (ρ id).ownBlock ≠ some k' → w'.heap[k']? = w.heap[k']? := fun k' hk' hne => hs.hp.below.block k' hk' hne
      have hg : w.grownBy w' (ρ id).ownBlock := ⟨hs.hp.below.os, hs.hp.below.tape, hs.hp.below.output, hs.hp.below.size, fun k' hk' hne => hk k' hk' (fun e => hne e.symm)⟩
      have hW := SimH.write (b' := { b with xs := ints k (L.take off ++ S ++ L.drop (off + len)) }) (vs' := us) hH hid hg rfl rfl (by rw [hsz]; exact q1) (by rw [hsz]; exact q3) (rep_ints k _ us q4)
      refine ⟨hs.defers, _, results_of hres a.tmps w', _, rfl, by rw [hh']; exact hW.1, ?_, hg.size, hW.2, fun i => ?_⟩
      · have hrr := res_rep (rs := rs) hs
        rw [hr] at hrr
        exact scalar_rep hrs hrr
      · subst hh'
        by_cases hi : i = id
        · subst hi
          rw [upd_same]
          refine ⟨by simp [hid], fun b0 hb0 => ?_⟩
          rw [hid] at hb0
          cases hb0
          exact ⟨_, rfl, rfl, by rw [hxs]; simp only [ints_length]; exact hxl⟩
        · rw [upd_ne _ _ hi]
          exact ⟨Iff.rfl, fun b0 hb0 => ⟨b0, hb0, rfl, rfl⟩⟩
    cases e with
    | normal => obtain ⟨ρ', σ, h1, h2⟩ := q; exact fin h1 h2
    | ret => obtain ⟨ρ', σ, h1, h2⟩ := q; exact fin h1 h2
    | exit i => obtain ⟨ρ', σ, h1, h2⟩ := q; exact h2.elim
    | goto l => exact q.elim
    | panic c => exact q.elim
    | outgrown => exact q.elim
  have split1 : ∀ (x : AV) (rest : List AV), args = x :: rest → ∃ v us, vs = v :: us ∧ RepT w (inM M0 ρ h0) ρ h0 x v ∧ RepTL w (inM M0 ρ h0) ρ h0 rest us := by
    intro x rest he
    subst he
    cases vs with
    | nil => simp [RepTL] at hR
    | cons v us =>
      refine ⟨v, us, rfl, hR.2 0 x v rfl rfl, by have := hR.1; simpa using this, fun i y u hy hu => hR.2 (i + 1) y u (by simpa using hy) (by simpa using hu)⟩
  unfold spInpl at hsp
  split at hsp
  · rename_i hh id rest
    obtain ⟨b, hb1, hsp⟩ := Option.bind_eq_some_iff.1 hsp
    obtain ⟨L, hL, hsp⟩ := Option.bind_eq_some_iff.1 hsp
    obtain ⟨p, hp, hsp⟩ := Option.bind_eq_some_iff.1 hsp
    split at hsp
    · rename_i hc
      obtain ⟨c1, c2, c3, c4⟩ := hc
      simp only [Option.some.injEq, Prod.mk.injEq] at hsp
      obtain ⟨rfl, rfl⟩ := hsp
      obtain ⟨v, us, rfl, hv, hus⟩ := split1 _ _ rfl
      have hxs := asInts_some hL
      have hxl : b.xs.length = L.length := by rw [hxs, ints_length]
      refine main id b L p.2 0 L.length rest .top v us hb1 hxs c2 (by omega) (by simpa using hp) c1 c4 c3 ?_ hus (by simp)
      obtain ⟨b0, h1, h2⟩ := hv
      rw [hb1] at h1
      cases h1
      obtain ⟨q1, q2, xs, q3, q4⟩ := hH.own id b hb1
      rw [hxl] at q3
      refine ⟨b, hb1, by omega, ?_⟩
      rcases q3.2 with ⟨e1, e2⟩ | ⟨g, cap, cur, e1, e2⟩
      · exact ⟨none, 0, by rw [h2, e1, e2], by omega, fun h0 => by omega⟩
      · have hcap : L.length ≤ cap := e2.2.2.1
        exact ⟨some ⟨g, 0, none⟩, cap, by rw [h2, e1], hcap, fun _ => ⟨g, L.length, cap, e1, by simp⟩⟩
    · cases hsp
  · rename_i hh id off len rest
    obtain ⟨b, hb1, hsp⟩ := Option.bind_eq_some_iff.1 hsp
    obtain ⟨L, hL, hsp⟩ := Option.bind_eq_some_iff.1 hsp
    obtain ⟨p, hp, hsp⟩ := Option.bind_eq_some_iff.1 hsp
    split at hsp
    · rename_i hc
      obtain ⟨c0, c1, c2, c3, c4⟩ := hc
      simp only [Option.some.injEq, Prod.mk.injEq] at hsp
      obtain ⟨rfl, rfl⟩ := hsp
      obtain ⟨v, us, rfl, hv, hus⟩ := split1 _ _ rfl
      exact main id b L p.2 off len rest .top v us hb1 (asInts_some hL) c2 c0 (by simpa using hp) c1 c4 c3 hv hus rfl
    · cases hsp
  · cases hsp

/-! ### Functions that hand a row of their own over -/
def spOwn (e : TypeId) (k : IntKind) (f : List AV → Option (List Int)) : List AV → Option Buf := fun args => (f args).map fun L => ⟨e, 1, ints k L, none⟩

theorem owned_of_awp {f : FuncId} {fn : Func} {c : Code} {e : TypeId} {k : IntKind} {sp : List AV → Option (List Int)} (r : Nat) (hf : P.funcs[f]? = some fn) (hb : fn.body = some c) (hn : fn.ntmps = n) (hres : fn.results = ([r].map ResultVar.tmp).toArray)
    (h : ∀ (M0 : Nat → Prop) (w0 : Bs) (args : List AV) (L : List Int), sp args = some L → args.length ≤ n ∧
      AWP P n M0 w0 c (fun σ => ∃ id, σ.t r = .own id ∧ σ.h id = some ⟨e, 1, ints k L, none⟩) (fun _ _ => False) (fun σ => ∃ id, σ.t r = .own id ∧ σ.h id = some ⟨e, 1, ints k L, none⟩) (st (args0 args 0) [])) :
    OwnedOK P f (spOwn e k sp) := by
  intro M args vs w b hM hR hr
  obtain ⟨L, hL, rfl⟩ := Option.map_eq_some_iff.1 hr
  obtain ⟨hl, hA⟩ := h M ⟨w, w.heap.size, fun _ => True, Nat.le_refl _⟩ args L hL
  refine calls_of_wp hf hb ?_
  rw [hn]
  refine wp_mono (hA _ _ _ (sim_start hM hR hl)) fun e' a w' q => ?_
  have fin : ∀ {ρ σ}, Sim n M ⟨w, w.heap.size, fun _ => True, Nat.le_refl _⟩ ρ σ a w' → (∃ id, σ.t r = .own id ∧ σ.h id = some ⟨e, 1, ints k L, none⟩) → a.defers = [] ∧ ∃ v, (results fn a.tmps).run P w' = .ok v w' ∧ ∃ v', Ending.returned v = .returned v' ∧ Below w.heap.size w w' ∧ (∀ k, v'.ownBlock = some k → w.heap.size ≤ k) ∧ OwnB w' (fun k => M k ∨ v'.ownBlock = some k) w.heap.size v' ⟨e, 1, ints k L, none⟩ := by
    rintro ρ σ hs ⟨id, h1, h2⟩
    have ht := hs.tm r
    rw [h1] at ht
    obtain ⟨b0, h3, h4⟩ := ht
    have hO := hs.hp.own id _ h2
    refine ⟨hs.defers, _, results_of hres a.tmps w', _, rfl, ⟨hs.hp.below.os, hs.hp.below.tape, hs.hp.below.output, hs.hp.below.size, fun k hk => hs.hp.below.block k hk trivial⟩, ?_, ?_⟩
    · show ∀ k, (a.tmps.getD r undef).ownBlock = some k → _
      rw [h4]
      exact fun k hk => (hO.lt k hk).1
    · show OwnB w' _ _ (a.tmps.getD r undef) _
      rw [h4]
      obtain ⟨q1, q2, us, q3, q4⟩ := hO
      exact ⟨q1, q2, us, q3, rep_ints k L us q4⟩
  cases e' with
  | normal => obtain ⟨ρ', σ, h1, h2⟩ := q; exact fin h1 h2
  | ret => obtain ⟨ρ', σ, h1, h2⟩ := q; exact fin h1 h2
  | exit i => obtain ⟨ρ', σ, h1, h2⟩ := q; exact h2.elim
  | goto l => exact q.elim
  | panic c => exact q.elim
  | outgrown => exact q.elim

attribute [go_sem] spInpl spOwn asInts_ints List.all_nil List.all_cons Bool.and_self Option.isNone_none Bool.true_and Bool.and_true

end
end Go.Abs

/- Calls, as equations for the simplifier; numbers' arithmetic. -/
namespace Go.Abs
open Go Go.RowKit Go.NatMath
set_option linter.unusedVariables false
set_option linter.unusedSimpArgs false

def killF (id : Nat) (t : Nat → AV) : Nat → AV := fun j => kill id (t j)
def killAllF (ids : List Nat) (t : Nat → AV) : Nat → AV := fun j => killAll ids (t j)
theorem killF_app (id : Nat) (t : Nat → AV) (j : Nat) : killF id t j = kill id (t j) := rfl
theorem killAllF_app (ids : List Nat) (t : Nat → AV) (j : Nat) : killAllF ids t j = killAll ids (t j) := rfl
theorem killAllF_nil (t : Nat → AV) : killAllF [] t = t := by funext j; exact killAll_nil _
theorem aAppend_own (e : TypeId) (sz bytes : Nat) (z : AV) (ek : Option IntKind) (σ : St) (d id : Nat) (x : AV) : aAppend (.slice e sz bytes z ek) σ d (.own id) x = (elems σ.h x).bind fun ys => (σ.h id).bind fun b =>
    if b.e = e ∧ b.sz = sz ∧ ys.all (elemOk sz) = true ∧ (b.xs.length + ys.length) * bytes ≤ 140737488355328 ∧ b.xs.length + ys.length ≤ 9223372036854775807 ∧ refId x ≠ some id then
          some ⟨upd (killF id σ.t) d (.own id), upd σ.h id (some ⟨e, sz, b.xs ++ ys, none⟩)⟩ else none := by
  unfold aAppend
  cases elems σ.h x with
  | none => rfl
  | some ys => simp only [Option.bind_some]; cases σ.h id <;> rfl
theorem aAppend_nil (e : TypeId) (sz bytes : Nat) (z : AV) (ek : Option IntKind) (σ : St) (d : Nat) (x : AV) : aAppend (.slice e sz bytes z ek) σ d (.val (.slice none 0 0)) x = (elems σ.h x).bind fun ys =>
    if ys.all (elemOk sz) = true ∧ ys.length * bytes ≤ 140737488355328 ∧ ys.length ≤ 9223372036854775807 ∧ (σ.h d).isNone = true then
        some ⟨upd σ.t d (.own d), upd σ.h d (some ⟨e, sz, ys, none⟩)⟩ else none := by
  unfold aAppend
  cases elems σ.h x <;> rfl
def aCallS (s : Spec) (σ : St) (d : Option Nat) (args : List AV) : Option St :=
  match s with
  | .none => none
  | .pure sp => (sp (args.map (frz σ.h))).bind fun r => if scalarAV r = true then some (σ.set d r)
      else some ⟨(St.set ⟨killAllF (args.filterMap refId) σ.t, σ.h⟩ d r).t, eraseAll (args.filterMap refId) σ.h⟩
  | .owned sp => match d with
    | some d => (sp (args.map (frz σ.h))).bind fun b => if (σ.h d).isNone = true ∧ (args.filterMap refId).isEmpty = true then some ⟨upd σ.t d (.own d), upd σ.h d (some ⟨b.e, b.sz, b.xs, none⟩)⟩ else none
    | none => none
  | .inpl sp => (sp args σ.h).bind fun p => if refId p.1 = none then some ⟨(σ.set d p.1).t, p.2⟩ else none

theorem aCall_eq (Γ : FuncId → Spec) (σ : St) (d : Option Nat) (f : FuncId) (args : List AV) : aCall Γ σ d f args = aCallS (Γ f) σ d args := by
  unfold aCall aCallS
  cases Γ f with
  | none => rfl
  | pure sp => simp only; cases sp (args.map (frz σ.h)) <;> rfl
  | owned sp => cases d <;> simp only <;> cases sp (args.map (frz σ.h)) <;> rfl
  | inpl sp => simp only; cases sp args σ.h <;> rfl
theorem aCallS_pure (sp : List AV → Option AV) (σ : St) (d : Option Nat) (args : List AV) : aCallS (.pure sp) σ d args = (sp (args.map (frz σ.h))).bind fun r => if scalarAV r = true then some (σ.set d r)
      else some ⟨(St.set ⟨killAllF (args.filterMap refId) σ.t, σ.h⟩ d r).t, eraseAll (args.filterMap refId) σ.h⟩ := rfl
theorem aCallS_owned (sp : List AV → Option Buf) (σ : St) (d : Nat) (args : List AV) : aCallS (.owned sp) σ (some d) args = (sp (args.map (frz σ.h))).bind fun b => if (σ.h d).isNone = true ∧ (args.filterMap refId).isEmpty = true then some ⟨upd σ.t d (.own d), upd σ.h d (some ⟨b.e, b.sz, b.xs, none⟩)⟩ else none := rfl
theorem aCallS_inpl (sp : List AV → Hp → Option (AV × Hp)) (σ : St) (d : Option Nat) (args : List AV) : aCallS (.inpl sp) σ d args = (sp args σ.h).bind fun p => if refId p.1 = none then some ⟨(σ.set d p.1).t, p.2⟩ else none := rfl
theorem bind_ite_some {α β : Type} {c : Prop} [Decidable c] {x : α} {f : α → Option β} : (if c then some x else none).bind f = if c then f x else none := by split <;> rfl
theorem map_ite_none {α β : Type} {c : Prop} [Decidable c] {x : α} {f : α → β} : (if c then none else some x).map f = if c then none else some (f x) := by split <;> rfl
theorem ite_ite_none {α : Type} {c d : Prop} [Decidable c] [Decidable d] {x : α} : (if c then (if d then some x else none) else none) = if c ∧ d then some x else none := by
  by_cases hc : c <;> by_cases hd : d <;> simp [hc, hd]
theorem dec_ints' {L : List Int} (h : okL L) (hl : L.length ≤ 35184372088831) : dec (.lst (ints .u32 L)) = some L := dec_ints h hl
theorem dec_nil : dec (.lst []) = some [] := rfl
theorem lst_nil : AV.lst [] = .lst (ints .u32 []) := rfl

/-- Two, or three, numbers of at most so many limbs less than could be. -/
def decK (k : Nat) (x : AV) : Option (List Int) := (dec x).bind fun L => if L.length + k ≤ MAXL then some L else none
theorem decK_some {k : Nat} {x : AV} {L : List Int} (h : decK k x = some L) : x = .lst (ints .u32 L) ∧ okL L ∧ L.length + k ≤ 35184372088831 := by
  unfold decK at h
  obtain ⟨M, h1, h2⟩ := Option.bind_eq_some_iff.1 h
  split at h2
  · cases h2
    obtain ⟨g1, g2, g3⟩ := dec_some h1
    exact ⟨g1, g2, by rw [MAXL_val] at *; assumption⟩
  · cases h2
theorem decK_ints {k : Nat} {L : List Int} (h : okL L) (hl : L.length + k ≤ 35184372088831) : decK k (.lst (ints .u32 L)) = some L := by
  unfold decK
  rw [dec_ints h (by rw [MAXL_val]; omega)]
  simp only [Option.bind_some]
  rw [if_pos (by rw [MAXL_val]; exact hl)]
theorem decK_nil {k : Nat} (h : k ≤ 35184372088831) : decK k (.lst []) = some [] := decK_ints (L := []) okL_nil (by simpa using h)

def sp1 (k : Nat) (f : List Int → Option AV) : List AV → Option AV
  | [x] => (decK k x).bind f
  | _ => none
def sp2 (k : Nat) (f : List Int → List Int → Option AV) : List AV → Option AV
  | [x, y] => (decK k x).bind fun L => (decK k y).bind fun M => f L M
  | _ => none
theorem sp1_some {k : Nat} {f : List Int → Option AV} {args : List AV} {r : AV} (h : sp1 k f args = some r) : ∃ L, args = [.lst (ints .u32 L)] ∧ okL L ∧ L.length + k ≤ 35184372088831 ∧ f L = some r := by
  unfold sp1 at h
  split at h
  · obtain ⟨L, h1, h2⟩ := Option.bind_eq_some_iff.1 h
    obtain ⟨rfl, g2, g3⟩ := decK_some h1
    exact ⟨L, rfl, g2, g3, h2⟩
  · cases h
theorem sp2_some {k : Nat} {f : List Int → List Int → Option AV} {args : List AV} {r : AV} (h : sp2 k f args = some r) : ∃ L M, args = [.lst (ints .u32 L), .lst (ints .u32 M)] ∧ okL L ∧ L.length + k ≤ 35184372088831 ∧ okL M ∧ M.length + k ≤ 35184372088831 ∧ f L M = some r := by
  unfold sp2 at h
  split at h
  · obtain ⟨L, h1, h2⟩ := Option.bind_eq_some_iff.1 h
    obtain ⟨M, h3, h4⟩ := Option.bind_eq_some_iff.1 h2
    obtain ⟨rfl, g2, g3⟩ := decK_some h1
    obtain ⟨rfl, g4, g5⟩ := decK_some h3
    exact ⟨L, M, rfl, g2, g3, g4, g5, h4⟩
  · cases h
theorem idxOk_one (x : Operand) : idxOk [(0, x)] 0 = true := rfl
theorem idxOk_two (x y : Operand) : idxOk [(0, x), (1, y)] 0 = true := rfl
theorem idxOk_three (x y z : Operand) : idxOk [(0, x), (1, y), (2, z)] 0 = true := rfl
theorem lst_two (k : IntKind) (v u : Int) : AV.lst [.val (.int k v), .val (.int k u)] = .lst (ints k [v, u]) := rfl
theorem lst_three (k : IntKind) (v u t : Int) : AV.lst [.val (.int k v), .val (.int k u), .val (.int k t)] = .lst (ints k [v, u, t]) := rfl
attribute [go_sem] List.size_toArray elemOk_int idxOk_one idxOk_two idxOk_three lst_two lst_three
def evs (σ : St) : List (Nat × Operand) → List AV
  | [] => []
  | p :: ps => ev σ p.2 :: evs σ ps
theorem map_ev (σ : St) (l : List (Nat × Operand)) : l.map (fun p => ev σ p.2) = evs σ l := by
  induction l with
  | nil => rfl
  | cons p ps ih => simp [evs, ih]
theorem evs_nil (σ : St) : evs σ [] = [] := rfl
theorem evs_cons (σ : St) (i : Nat) (x : Operand) (ps : List (Nat × Operand)) : evs σ ((i, x) :: ps) = ev σ x :: evs σ ps := rfl
theorem killAll_val (ids : List Nat) (v : Value) : killAll ids (.val v) = .val v := rfl
theorem killAll_lst (ids : List Nat) (v : List AV) : killAll ids (.lst v) = .lst v := rfl
theorem killAll_tup (ids : List Nat) (v : List AV) : killAll ids (.tup v) = .tup v := rfl
theorem killAll_top (ids : List Nat) : killAll ids .top = .top := rfl
theorem killAll_own (ids : List Nat) (i : Nat) : killAll ids (.own i) = if i ∈ ids then .top else .own i := rfl
theorem killAll_ref (ids : List Nat) (i o l : Nat) : killAll ids (.ref i o l) = if i ∈ ids then .top else .ref i o l := rfl
theorem eraseAll_app (ids : List Nat) (h : Hp) (i : Nat) : eraseAll ids h i = if i ∈ ids then none else h i := rfl
attribute [go_sem] killAll_val killAll_lst killAll_tup killAll_top killAll_own killAll_ref eraseAll_app List.mem_cons List.not_mem_nil
attribute [go_sem] killF_app killAllF_app killAllF_nil aAppend_own aAppend_nil
attribute [go_sem ↓] map_ev
attribute [go_sem] evs_nil evs_cons Option.isSome_some Option.isSome_none Bool.false_or Bool.true_or Bool.or_true Bool.or_false Bool.not_true Bool.not_false
attribute [go_sem] List.length_reverse List.length_set List.length_append List.length_replicate aCall_eq aCallS_pure aCallS_owned aCallS_inpl bind_ite_some map_ite_none ite_ite_none dec_ints' dec_nil decK_ints decK_nil sp1 sp2

/-! ### Bits -/
theorem shr_u64_32 (a : Int) : a.fdiv (2 ^ min (32 : Int).toNat 64) = a / 4294967296 := by
  rw [show (min (32 : Int).toNat 64) = 32 from rfl]; exact Int.fdiv_eq_ediv_of_nonneg a (by decide)
theorem shl_u64_32 (a : Int) : a * 2 ^ min (32 : Int).toNat 64 = a * 4294967296 := rfl
theorem shr_u32_31 (a : Int) : a.fdiv (2 ^ min (31 : Int).toNat 32) = a / 2147483648 := by
  rw [show (min (31 : Int).toNat 32) = 31 from rfl]; exact Int.fdiv_eq_ediv_of_nonneg a (by decide)
theorem shr_u32_16 (a : Int) : a.fdiv (2 ^ min (16 : Int).toNat 32) = a / 65536 := by
  rw [show (min (16 : Int).toNat 32) = 16 from rfl]; exact Int.fdiv_eq_ediv_of_nonneg a (by decide)
theorem shr_u32_8 (a : Int) : a.fdiv (2 ^ min (8 : Int).toNat 32) = a / 256 := by
  rw [show (min (8 : Int).toNat 32) = 8 from rfl]; exact Int.fdiv_eq_ediv_of_nonneg a (by decide)
theorem tdiv_nn {a : Int} (b : Int) (h : 0 ≤ a) : a.tdiv b = a / b := Int.tdiv_eq_ediv_of_nonneg h
theorem tmod_nn {a : Int} (b : Int) (h : 0 ≤ a) : a.tmod b = a % b := Int.tmod_eq_emod_of_nonneg h
theorem or_hi {a b : Int} (h1 : 0 ≤ a) (h2 : a < 4294967296) (h3 : 0 ≤ b) (h4 : b < 4294967296) : bitsOp .or .u64 (a * 4294967296) b = a * 4294967296 + b := by
  obtain ⟨m, rfl⟩ := Int.eq_ofNat_of_zero_le h1
  obtain ⟨k, rfl⟩ := Int.eq_ofNat_of_zero_le h3
  have e1 : (m : Int) * 4294967296 = ((m * 4294967296 : Nat) : Int) := by omega
  rw [e1]
  show IntKind.u64.wrap ((BitVec.ofInt 64 ((m * 4294967296 : Nat) : Int) ||| BitVec.ofInt 64 (k : Int)).toNat : Int) = _
  rw [BitVec.ofInt_natCast, BitVec.ofInt_natCast, BitVec.toNat_or, BitVec.toNat_ofNat, BitVec.toNat_ofNat]
  have : (m * 4294967296 % 2 ^ 64 ||| k % 2 ^ 64) = m * 4294967296 + k := by
    rw [Nat.mod_eq_of_lt (by omega), Nat.mod_eq_of_lt (by omega), show (4294967296 : Nat) = 2 ^ 32 from rfl, ← Nat.shiftLeft_eq, Nat.shiftLeft_add_eq_or_of_lt (by omega)]
  rw [this, wrap_u64_in (by omega) (by omega)]
  omega
attribute [go_sem] shr_u64_32 shl_u64_32 shr_u32_31 shr_u32_16 shr_u32_8 tdiv_nn tmod_nn or_hi

theorem bitsOp_u32 (op : BinOp) (a b : Int) : bitsOp op .u32 a b = ((match op with | .and => BitVec.ofInt 32 a &&& BitVec.ofInt 32 b | .or => BitVec.ofInt 32 a ||| BitVec.ofInt 32 b | .xor => BitVec.ofInt 32 a ^^^ BitVec.ofInt 32 b | _ => BitVec.ofInt 32 a &&& ~~~BitVec.ofInt 32 b).toNat : Int) := by
  have key : ∀ x : BitVec 32, IntKind.u32.wrap (x.toNat : Int) = (x.toNat : Int) := fun x => by
    rw [wrap_u32]
    have := x.isLt
    omega
  cases op <;> exact key _
theorem ofInt_toNat (x : BitVec 32) : BitVec.ofInt 32 (x.toNat : Int) = x := by simp
theorem msb_ofInt {x : Int} (h1 : 0 ≤ x) (h2 : x < 4294967296) : (BitVec.ofInt 32 x).msb = decide (2147483648 ≤ x) := by
  obtain ⟨m, rfl⟩ := Int.eq_ofNat_of_zero_le h1
  rw [BitVec.msb_eq_decide]
  simp
  omega
theorem shr31 (x : BitVec 32) : (x.toNat : Int) / 2147483648 = if x.msb then 1 else 0 := by
  have := x.isLt
  rw [BitVec.msb_eq_decide]
  split
  · rename_i h; simp at h; omega
  · rename_i h; simp at h; omega
/-- `math/bits.Sub32`'s borrow. -/
theorem sub_borrow {x y b : Int} (hx : 0 ≤ x ∧ x < 4294967296) (hy : 0 ≤ y ∧ y < 4294967296) (hb : 0 ≤ b ∧ b ≤ 1) :
    bitsOp .or .u32 (bitsOp .and .u32 (bitsOp .xor .u32 IntKind.u32.max x) y) (bitsOp .and .u32 (bitsOp .xor .u32 IntKind.u32.max (bitsOp .xor .u32 x y)) ((x - y - b) % 4294967296)) / 2147483648 = if x < y + b then 1 else 0 := by
  have hm : IntKind.u32.max = 4294967295 := by decide
  have hd := Int.emod_nonneg (x - y - b) (show (4294967296 : Int) ≠ 0 by decide)
  have hd2 := Int.emod_lt_of_pos (x - y - b) (show (0 : Int) < 4294967296 by decide)
  simp only [bitsOp_u32, ofInt_toNat, shr31, BitVec.msb_or, BitVec.msb_and, BitVec.msb_xor, hm, msb_ofInt hx.1 hx.2, msb_ofInt hy.1 hy.2, msb_ofInt hd hd2, msb_ofInt (show (0 : Int) ≤ 4294967295 by decide) (by decide)]
  by_cases h1 : 2147483648 ≤ x <;> by_cases h2 : 2147483648 ≤ y <;> by_cases h3 : 2147483648 ≤ (x - y - b) % 4294967296 <;> simp [h1, h2, h3] <;> omega

end Go.Abs

/- What a call is handed, as it reads. -/
namespace Go.Abs
open Go Go.RowKit Go.NatMath
set_option linter.unusedVariables false
set_option linter.unusedSimpArgs false

theorem flat_ints (k : IntKind) (L : List Int) : flat (ints k L) = ints k L := by
  induction L with
  | nil => rfl
  | cons n L ih => simp only [ints, List.map_cons, flat, vInt, cellsOf] at ih ⊢; rw [ih]; rfl

theorem rep_row {w : World} {k : IntKind} {a : Option Addr} {len cap : Nat} {zs : List Int}
    (h : (a = none ∧ len = 0 ∧ cap = 0 ∧ zs = []) ∨ ∃ x, a = some x ∧ len ≤ cap ∧ cap ≤ maxLen ∧ zs.length = cap ∧ (∀ i, i < zs.length → w.cell? (x.add i) = some (.int k (zs.getD i 0))) ∧ ∀ n ∈ zs, (Lit.int k n).wf = true) :
    Rep w (fun _ => False) (.lst (ints k (zs.take len))) (.slice a len cap) ∧ (zs.take len).length = len ∧ ∀ n ∈ zs.take len, (Lit.int k n).wf = true := by
  rcases h with ⟨rfl, rfl, rfl, rfl⟩ | ⟨x, rfl, h1, h2, h3, h4, h5⟩
  · exact ⟨.lst [] none 0 1 0 0 (fun _ => undef) (Nat.le_refl _) (fun x hx => by simp at hx) (fun h => by simp at h) (fun j y hy => by simp [flat] at hy) (fun j y hy => by simp [flat] at hy), rfl, fun n hn => by simp at hn⟩
  · have hl : (zs.take len).length = len := by simp; omega
    have hil : (ints k (zs.take len)).length = len := by rw [ints_length, hl]
    refine ⟨?_, hl, fun n hn => h5 n (List.mem_of_mem_take hn)⟩
    have key := Rep.lst (w := w) (M := fun _ => False) (ints k (zs.take len)) (some x) cap 1 x.block x.off (fun j => .int k (zs.getD j 0)) (by omega)
      (fun y hy => by obtain ⟨n, _, rfl⟩ := List.mem_map.1 hy; rfl) (fun h0 => by
        rw [hil] at h0
        have hc := h4 0 (by omega)
        have e : x.add 0 = x := rfl
        rw [e] at hc
        unfold World.cell? at hc
        cases hb : w.heap[x.block]? with
        | none => rw [hb] at hc; cases hc
        | some bl =>
          refine ⟨?_, (Array.getElem?_eq_some_iff.1 hb).1, id⟩
          rw [hb] at hc
          cases bl with
          | cells c e fz =>
            simp only at hc
            cases hs : x.spot with
            | none => cases x; simp at hs; subst hs; rfl
            | some s => rw [hs] at hc; simp at hc
          | _ => cases hc) (fun j y hy => by
        rw [flat_ints] at hy
        have hj : j < len := by have := (List.getElem?_eq_some_iff.1 hy).1; omega
        have hc := h4 j (by omega)
        rw [← hc]
        unfold Addr.add
        by_cases hj0 : j = 0
        · subst hj0
          simp only [if_true, Nat.add_zero]
          unfold World.cell?
          have hc := h4 0 (by omega)
          have e : x.add 0 = x := rfl
          rw [e] at hc
          unfold World.cell? at hc
          cases hb : w.heap[x.block]? with
          | none => simp
          | some bl =>
            rw [hb] at hc
            cases bl with
            | cells c e fz =>
              simp only at hc ⊢
              cases hs : x.spot with
              | none => rfl
              | some s => rw [hs] at hc; simp at hc
            | _ => cases hc
        · rw [if_neg hj0]) (fun j y hy => by
        rw [flat_ints] at hy
        have hj : j < len := by have := (List.getElem?_eq_some_iff.1 hy).1; omega
        simp [ints, hj] at hy
        obtain ⟨n, hn, rfl⟩ := hy
        simp only [List.getD_eq_getElem?_getD, hn, Option.getD_some, vInt]
        exact .val _)
    rw [hil] at key
    exact key

theorem wf_i64 {n : Int} (h : (Lit.int .i64 n).wf = true) : -9223372036854775808 ≤ n ∧ n ≤ 9223372036854775807 := by
  simp only [Lit.wf, Bool.and_eq_true, decide_eq_true_eq] at h
  have e1 : IntKind.i64.min = -9223372036854775808 := by decide
  have e2 : IntKind.i64.max = 9223372036854775807 := by decide
  omega

theorem okL_wf {L : List Int} (h : ∀ n ∈ L, (Lit.int .u32 n).wf = true) : okL L := fun n hn => by
  have := h n hn
  simp only [Lit.wf, Bool.and_eq_true, decide_eq_true_eq] at this
  have e1 : IntKind.u32.min = 0 := by decide
  have e2 : IntKind.u32.max = 4294967295 := by decide
  omega

end Go.Abs

/- What follows from what a walk shows. -/
namespace Go.Abs
open Go Go.RowKit Go.NatMath
set_option linter.unusedVariables false
set_option linter.unusedSimpArgs false
section
variable {P : Program} {n : Nat} {M0 : Nat → Prop} {w0 : Bs} {N N' : St → Prop} {X X' : Nat → St → Prop} {R R' : St → Prop} {σ : St}
theorem awp_mono {c : Code} (h : AWP P n M0 w0 c N X R σ) (hN : ∀ σ, N σ → N' σ) (hX : ∀ i σ, X i σ → X' i σ) (hR : ∀ σ, R σ → R' σ) : AWP P n M0 w0 c N' X' R' σ := fun ρ a w hs => by
  refine wp_mono (h ρ a w hs) fun e a w q => ?_
  cases e with
  | normal => obtain ⟨ρ, σ, h1, h2⟩ := q; exact ⟨ρ, σ, h1, hN _ h2⟩
  | ret => obtain ⟨ρ, σ, h1, h2⟩ := q; exact ⟨ρ, σ, h1, hR _ h2⟩
  | exit i => obtain ⟨ρ, σ, h1, h2⟩ := q; exact ⟨ρ, σ, h1, hX _ _ h2⟩
  | goto l => exact q.elim
  | panic c => exact q.elim
  | outgrown => exact q.elim
/-- One walk, both ways to use it: the row that is handed over, and what it reads as. -/
theorem pure_of_owned_walk {f : FuncId} {fn : Func} {c : Code} {e : TypeId} {k : IntKind} {sp : List AV → Option (List Int)} (r : Nat) (hf : P.funcs[f]? = some fn) (hb : fn.body = some c) (hn : fn.ntmps = n) (hres : fn.results = ([r].map ResultVar.tmp).toArray)
    (h : ∀ (M0 : Nat → Prop) (w0 : Bs) (args : List AV) (L : List Int), sp args = some L → args.length ≤ n ∧
      AWP P n M0 w0 c (fun σ => ∃ id, σ.t r = .own id ∧ σ.h id = some ⟨e, 1, ints k L, none⟩) (fun _ _ => False) (fun σ => ∃ id, σ.t r = .own id ∧ σ.h id = some ⟨e, 1, ints k L, none⟩) (st (args0 args 0) [])) :
    PureOK P f (fun args => (sp args).map fun L => .lst (ints k L)) := by
  refine pure_of_awp [r] hf hb hn hres ?_
  intro M0 w0 args x hx
  obtain ⟨L, hL, rfl⟩ := Option.map_eq_some_iff.1 hx
  obtain ⟨h1, h2⟩ := h M0 w0 args L hL
  refine ⟨h1, awp_mono h2 ?_ (fun _ _ h => h) ?_⟩ <;>
  · rintro σ ⟨id, g1, g2⟩
    simp only [Res, g1, frz, g2]
theorem pure_congr {f : FuncId} {sp sp' : List AV → Option AV} (h : PureOK P f sp) (he : ∀ args r, sp' args = some r → sp args = some r) : PureOK P f sp' := fun M args vs w r hM hR hr => h M args vs w r hM hR (he _ _ hr)
end
end Go.Abs

/- Strings as rows of bytes. -/
namespace Go.Abs
open Go Go.RowKit Go.NatMath
set_option linter.unusedVariables false
set_option linter.unusedSimpArgs false

def bys (s : ByteArray) : List Int := s.data.toList.map fun b => (b.toNat : Int)
theorem bytes_length (s : ByteArray) : (bys s).length = s.size := by rw [bys, List.length_map]; rfl
theorem bytes_range (s : ByteArray) : ∀ x ∈ bys s, 0 ≤ x ∧ x < 256 := by
  intro x hx
  obtain ⟨b, _, rfl⟩ := List.mem_map.1 hx
  have := b.toNat_lt
  omega
theorem bytes_getD_range (s : ByteArray) (i : Nat) : 0 ≤ (bys s).getD i 0 ∧ (bys s).getD i 0 < 256 := by
  rw [List.getD_eq_getElem?_getD]
  cases hq : (bys s)[i]? with
  | none => simp
  | some x => simpa using bytes_range s x (List.mem_of_getElem? hq)
theorem bytes_strOf {L : List Int} (h : ∀ x ∈ L, 0 ≤ x ∧ x < 256) : bys (strOfNums L) = L := by
  unfold bys
  rw [strOfNums_data, List.map_map]
  refine (List.map_congr_left fun x hx => ?_).trans (List.map_id _)
  have := h x hx
  simp only [Function.comp_apply, id_eq, UInt8.toNat_ofNat']
  omega
theorem bytes_inj {a b : ByteArray} (h : bys a = bys b) : a = b := by
  obtain ⟨⟨a⟩⟩ := a
  obtain ⟨⟨b⟩⟩ := b
  simp only [bys] at h
  have := List.map_inj_right (fun (x y : UInt8) (e : (x.toNat : Int) = y.toNat) => UInt8.toNat_inj.1 (by omega)) |>.1 h
  subst this
  rfl
theorem strOf_bytes (s : ByteArray) : strOfNums (bys s) = s := bytes_inj (bytes_strOf (bytes_range s))
theorem bytes_get (s : ByteArray) {i : Nat} (h : i < s.size) : (s[i].toNat : Int) = (bys s).getD i 0 := by
  have hl : i < (bys s).length := by rw [bytes_length]; exact h
  rw [List.getD_eq_getElem?_getD, List.getElem?_eq_getElem hl, Option.getD_some]
  simp [bys, ByteArray.getElem_eq_getElem_data]
theorem beq_str (a b : ByteArray) : (a.toList == b.toList) = decide (bys a = bys b) := by
  rw [ByteArray.toList_eq, ByteArray.toList_eq]
  by_cases h : a = b
  · subst h; simp
  · have h2 : bys a ≠ bys b := fun e => h (bytes_inj e)
    rw [decide_eq_false h2, beq_eq_false_iff_ne]
    intro e
    exact h2 (by unfold bys; rw [e])

def aIndexS (sh : Sh) (x : AV) (i : Option Int) : Option AV := match sh, x, i with
  | .str, .val (.string s), some i => if 0 ≤ i ∧ i < (s.size : Int) then some (vInt .u8 ((bys s).getD i.toNat 0)) else none
  | _, _, _ => none
theorem aIndexS_str (s : ByteArray) (i : Int) : aIndexS .str (.val (.string s)) (some i) = if 0 ≤ i ∧ i < (s.size : Int) then some (.val (.int .u8 ((bys s).getD i.toNat 0))) else none := rfl
theorem astep_index {Θ : TypeId → Sh} {Γ : FuncId → Spec} {σ : St} {d : Option Nat} {t ty : TypeId} {x i : Operand} {pos : String} {af : Array Edge} {g : Option (Nat × Bool)} :
    astep Θ Γ ⟨d, .index t x i, ty, pos, af, g⟩ σ = (aIndexS (Θ t) (ev σ x) (intOf? (ev σ i))).map (σ.set d) := by
  unfold astep aIndexS
  simp only
  split
  · rename_i s k h1 h2 h3
    rw [h1, h2, h3]
    simp only
    by_cases hk : 0 ≤ k ∧ k.toNat < s.size
    · rw [dif_pos hk, if_pos (by omega), Option.map_some, bytes_get s hk.2]
    · rw [dif_neg hk, if_neg (by omega)]; rfl
  · rename_i hno
    split
    · rename_i s k h1 h2 h3; exact absurd h3 (hno s k h1 h2)
    · rfl
attribute [go_sem ↓] astep_index
attribute [go_sem] aIndexS_str
end Go.Abs

/- Bits that do not meet. -/
namespace Go.Abs
open Go Go.RowKit Go.NatMath
set_option linter.unusedVariables false
set_option linter.unusedSimpArgs false

theorem pow_pos2 (n : Nat) : (0 : Int) < 2 ^ n := Int.pow_pos (by decide)
theorem pow_cast (n : Nat) : (2 : Int) ^ n = ((2 ^ n : Nat) : Int) := by rw [Int.natCast_pow]; rfl
theorem pow_le31 {n : Nat} (h : n < 32) : (2 : Int) ^ n ≤ 2147483648 := by
  have h1 : (2 : Nat) ^ n ≤ 2 ^ 31 := Nat.pow_le_pow_right (by decide) (by omega)
  have e : (2 : Nat) ^ 31 = 2147483648 := by decide
  rw [pow_cast]
  omega
theorem pow_dvd32 {n : Nat} (h : n ≤ 32) : (2 : Int) ^ n ∣ 4294967296 := ⟨_, pow_mul_split h⟩
theorem low_room {b P : Int} (hP : 0 < P) (hd : P ∣ 4294967296) (h0 : b < 4294967296) (hb : b % P = 0) : b + P ≤ 4294967296 := by
  obtain ⟨Q, hQ⟩ := hd
  obtain ⟨t, rfl⟩ := Int.dvd_of_emod_eq_zero hb
  rw [hQ] at h0 ⊢
  have h1 : t < Q := Int.lt_of_mul_lt_mul_left h0 (Int.le_of_lt hP)
  have h2 := Int.mul_le_mul_of_nonneg_left (show t + 1 ≤ Q by omega) (Int.le_of_lt hP)
  rw [Int.mul_add, Int.mul_one] at h2
  exact h2
theorem or_low {a b : Int} {n : Nat} (h1 : 0 ≤ a) (h2 : a < 2 ^ n) (h3 : 0 ≤ b) (h4 : b < 4294967296) (h5 : b % 2 ^ n = 0) (h6 : a < 4294967296) : bitsOp .or .u32 a b = a + b := by
  obtain ⟨x, rfl⟩ := Int.eq_ofNat_of_zero_le h1
  obtain ⟨y, rfl⟩ := Int.eq_ofNat_of_zero_le h3
  rw [pow_cast] at h2 h5
  have h2' : x < 2 ^ n := by omega
  have h5' : y % 2 ^ n = 0 := by omega
  have hy : y = y / 2 ^ n * 2 ^ n := by
    have := Nat.mod_add_div y (2 ^ n)
    rw [h5', Nat.zero_add, Nat.mul_comm] at this
    exact this.symm
  rw [bitsOp_u32]
  simp only [BitVec.ofInt_natCast, BitVec.toNat_or, BitVec.toNat_ofNat]
  rw [Nat.mod_eq_of_lt (by omega), Nat.mod_eq_of_lt (by omega), Nat.or_comm]
  have : (y ||| x) = y + x := by
    rw [hy, ← Nat.shiftLeft_eq, Nat.shiftLeft_add_eq_or_of_lt h2']
  rw [this]
  omega
theorem fdiv_pow (a : Int) (n : Nat) : a.fdiv (2 ^ n) = a / 2 ^ n := Int.fdiv_eq_ediv_of_nonneg a (Int.le_of_lt (pow_pos2 n))
end Go.Abs

/- A scope without jumps. -/
namespace Go.Abs
open Go Go.RowKit Go.NatMath
set_option linter.unusedVariables false
section
variable {P : Program} {n : Nat} {M0 : Nat → Prop} {w0 : Bs} {N : St → Prop} {X : Nat → St → Prop} {R : St → Prop} {σ : St}
theorem awp_scope {c : Code} (h : AWP P n M0 w0 c N X R σ) : AWP P n M0 w0 (.scope c) N X R σ := fun ρ a w hs => by
  refine wp_scope_straight (wp_mono (h ρ a w hs) fun e a w q => ?_)
  cases e <;> first | exact q | exact q.elim
end
theorem any_sz (e : TypeId) (sz : Nat) (xs : List AV) (hdr : Option Value) : Option.any (fun b : Buf => b.sz == sz) (some ⟨e, sz, xs, hdr⟩) = true := by simp
attribute [go_sem] any_sz
def evsF (σ : St) : List Operand → List AV
  | [] => []
  | x :: xs => frz (fun _ => none) (ev σ x) :: evsF σ xs
theorem map_frz (σ : St) (l : List Operand) : (l.map fun x => frz (fun _ => none) (ev σ x)) = evsF σ l := by
  induction l with
  | nil => rfl
  | cons p ps ih => simp [evsF, ih]
theorem evsF_nil (σ : St) : evsF σ [] = [] := rfl
theorem evsF_cons (σ : St) (x : Operand) (xs : List Operand) : evsF σ (x :: xs) = frz (fun _ => none) (ev σ x) :: evsF σ xs := rfl
attribute [go_sem ↓] map_frz
attribute [go_sem] evsF_nil evsF_cons
end Go.Abs
