/- Numbers in limbs of 32 bits: plain facts. -/
namespace Go.NatMath

def B : Nat := 4294967296
theorem B_pos : 0 < B := by decide

/-- The number that a list of limbs represents. -/
def nv : List Int → Nat
  | [] => 0
  | x :: xs => x.toNat + B * nv xs

/-- The limbs of a number, plain. -/
def limbs (n : Nat) : List Int := if n = 0 then [] else ((n % B : Nat) : Int) :: limbs (n / B)
termination_by n
decreasing_by exact Nat.div_lt_self (by omega) (by decide)

/-- All limbs are limbs. -/
def okL (L : List Int) : Prop := ∀ x ∈ L, 0 ≤ x ∧ x < 4294967296

theorem limbs_zero : limbs 0 = [] := by unfold limbs; simp
theorem limbs_pos {n : Nat} (h : n ≠ 0) : limbs n = ((n % B : Nat) : Int) :: limbs (n / B) := by
  rw [limbs]; simp [h]

theorem okL_nil : okL [] := fun x hx => by simp at hx
theorem okL_cons {x : Int} {L : List Int} : okL (x :: L) ↔ (0 ≤ x ∧ x < 4294967296) ∧ okL L := by simp [okL]
theorem okL_append {L M : List Int} : okL (L ++ M) ↔ okL L ∧ okL M := by
  simp only [okL, List.mem_append]
  exact ⟨fun h => ⟨fun x hx => h x (.inl hx), fun x hx => h x (.inr hx)⟩, fun h x hx => hx.elim (h.1 x) (h.2 x)⟩
theorem okL_take {L : List Int} (n : Nat) (h : okL L) : okL (L.take n) := fun x hx => h x (List.mem_of_mem_take hx)
theorem okL_drop {L : List Int} (n : Nat) (h : okL L) : okL (L.drop n) := fun x hx => h x (List.mem_of_mem_drop hx)
theorem okL_get {L : List Int} (h : okL L) (i : Nat) : 0 ≤ L.getD i 0 ∧ L.getD i 0 < 4294967296 := by
  rw [List.getD_eq_getElem?_getD]
  cases hq : L[i]? with
  | none => simp
  | some x => simpa using h x (List.mem_of_getElem? hq)
theorem okL_set {L : List Int} (h : okL L) (i : Nat) {x : Int} (hx : 0 ≤ x ∧ x < 4294967296) : okL (L.set i x) := fun y hy => by
  rcases List.mem_or_eq_of_mem_set hy with h1 | h1
  · exact h y h1
  · subst h1; exact hx
theorem okL_replicate (n : Nat) : okL (List.replicate n 0) := fun x hx => by rw [List.eq_of_mem_replicate hx]; omega

theorem nv_limbs (n : Nat) : nv (limbs n) = n := by
  induction n using Nat.strongRecOn with
  | _ n ih =>
    by_cases h : n = 0
    · subst h; rw [limbs_zero]; rfl
    · rw [limbs_pos h, nv, ih (n / B) (Nat.div_lt_self (by omega) (by decide))]
      simp only [Int.toNat_natCast]
      exact Nat.mod_add_div n B

theorem okL_limbs (n : Nat) : okL (limbs n) := by
  induction n using Nat.strongRecOn with
  | _ n ih =>
    by_cases h : n = 0
    · subst h; rw [limbs_zero]; exact okL_nil
    · rw [limbs_pos h, okL_cons]
      refine ⟨⟨by omega, ?_⟩, ih _ (Nat.div_lt_self (by omega) (by decide))⟩
      have : n % B < B := Nat.mod_lt _ (by decide)
      unfold B at this ⊢
      omega

theorem nv_append : ∀ (L M : List Int), nv (L ++ M) = nv L + B ^ L.length * nv M
  | [], M => by simp [nv]
  | x :: L, M => by
    simp only [List.cons_append, nv, nv_append L M, List.length_cons, Nat.pow_succ]
    rw [Nat.mul_add, ← Nat.mul_assoc, Nat.mul_comm B (B ^ L.length), Nat.add_assoc]

theorem nv_lt : ∀ {L : List Int}, okL L → nv L < B ^ L.length
  | [], _ => by simp [nv]
  | x :: L, h => by
    obtain ⟨h1, h2⟩ := okL_cons.1 h
    have ih := nv_lt h2
    simp only [nv, List.length_cons, Nat.pow_succ]
    have h3 : x.toNat < B := by unfold B; omega
    have h4 : nv L + 1 ≤ B ^ L.length := ih
    calc x.toNat + B * nv L < B + B * nv L := by omega
      _ = B * (nv L + 1) := by rw [Nat.mul_add]; omega
      _ ≤ B * B ^ L.length := Nat.mul_le_mul_left _ h4
      _ = B ^ L.length * B := Nat.mul_comm _ _

theorem nv_replicate (n : Nat) : nv (List.replicate n 0) = 0 := by
  induction n with
  | zero => rfl
  | succ n ih => simp [List.replicate_succ, nv, ih]

/-- A list whose last limb is not 0 is plain. -/
theorem limbs_nv : ∀ {L : List Int}, okL L → (∀ h : L ≠ [], L.getLast h ≠ 0) → limbs (nv L) = L
  | [], _, _ => limbs_zero
  | x :: L, h, hl => by
    obtain ⟨h1, h2⟩ := okL_cons.1 h
    have hx : x.toNat < B := by unfold B; omega
    have hL : ∀ h : L ≠ [], L.getLast h ≠ 0 := fun hne => by
      have := hl (by simp)
      rwa [List.getLast_cons hne] at this
    have ih := limbs_nv h2 hL
    have hne : nv (x :: L) ≠ 0 := by
      simp only [nv]
      intro h0
      have hx0 : x.toNat = 0 := by omega
      have hL0 : B * nv L = 0 := by omega
      have hv : nv L = 0 := (Nat.mul_eq_zero.1 hL0).resolve_left (by decide)
      rw [hv, limbs_zero] at ih
      subst ih
      have := hl (by simp)
      simp at this
      omega
    rw [limbs_pos hne]
    simp only [nv]
    rw [Nat.add_mul_mod_self_left, Nat.mod_eq_of_lt hx, Nat.add_mul_div_left _ _ (by decide), Nat.div_eq_of_lt hx, Nat.zero_add, ih]
    congr 1
    omega

/-- What is cut off at the top are noughts. -/
theorem nv_take {L : List Int} {n : Nat} (h : ∀ i, n ≤ i → L.getD i 0 = 0) : nv (L.take n) = nv L := by
  have h2 : nv (L.drop n) = 0 := by
    have : ∀ (M : List Int), (∀ i, M.getD i 0 = 0) → nv M = 0 := by
      intro M
      induction M with
      | nil => intro _; rfl
      | cons x M ih =>
        intro hM
        have h0 := hM 0
        have := ih (fun i => by simpa using hM (i + 1))
        simp at h0
        simp [nv, h0, this]
    refine this _ (fun i => ?_)
    have := h (n + i) (by omega)
    rw [List.getD_eq_getElem?_getD] at this ⊢
    rwa [List.getElem?_drop]
  have h3 := nv_append (L.take n) (L.drop n)
  rw [List.take_append_drop, h2] at h3
  omega

/-- Trimming makes a list plain. -/
theorem trimmed {L : List Int} {n : Nat} (hok : okL L) (hn : n ≤ L.length) (h : ∀ i, n ≤ i → L.getD i 0 = 0) (hl : n = 0 ∨ L.getD (n - 1) 0 ≠ 0) : L.take n = limbs (nv L) := by
  rw [← nv_take h]
  refine (limbs_nv (okL_take n hok) (fun hne => ?_)).symm
  have hlen : (L.take n).length = n := by simp; omega
  have h0 : n ≠ 0 := fun e => hne (by simp [e])
  rcases hl with hl | hl
  · exact absurd hl h0
  · rw [List.getLast_eq_getElem]
    simp only [hlen, List.getElem_take]
    rw [List.getD_eq_getElem?_getD, List.getElem?_eq_getElem (by omega)] at hl
    simpa using hl

theorem limbs_length_le {n k : Nat} (h : n < B ^ k) : (limbs n).length ≤ k := by
  induction k generalizing n with
  | zero => simp at h; subst h; simp [limbs_zero]
  | succ k ih =>
    by_cases h0 : n = 0
    · subst h0; simp [limbs_zero]
    · rw [limbs_pos h0, List.length_cons]
      have : n / B < B ^ k := Nat.div_lt_of_lt_mul (by rw [Nat.pow_succ, Nat.mul_comm] at h; exact h)
      have := ih this
      omega

theorem limbs_last {n : Nat} (h : limbs n ≠ []) : (limbs n).getLast h ≠ 0 := by
  induction n using Nat.strongRecOn with
  | _ n ih =>
    by_cases h0 : n = 0
    · subst h0; exact absurd limbs_zero h
    · have e := limbs_pos h0
      by_cases h1 : n / B = 0
      · have e2 : limbs n = [((n % B : Nat) : Int)] := by rw [e, h1, limbs_zero]
        have hb : n % B = n := Nat.mod_eq_of_lt (by
          rcases Nat.lt_or_ge n B with h | h
          · exact h
          · exact absurd h1 (Nat.ne_of_gt (Nat.div_pos h (by decide))))
        have key : ∀ (l : List Int) (hl : l ≠ []), l = [((n % B : Nat) : Int)] → l.getLast hl ≠ 0 := by
          intro l hl el
          subst el
          simp only [List.getLast_singleton]
          omega
        exact key _ h e2
      · have hne : limbs (n / B) ≠ [] := by rw [limbs_pos h1]; simp
        have := ih _ (Nat.div_lt_self (by omega) (by decide)) hne
        have key : ∀ (l : List Int) (hl : l ≠ []), l = ((n % B : Nat) : Int) :: limbs (n / B) → l.getLast hl ≠ 0 := by
          intro l hl el
          subst el
          rw [List.getLast_cons hne]
          exact this
        exact key _ h e

end Go.NatMath
