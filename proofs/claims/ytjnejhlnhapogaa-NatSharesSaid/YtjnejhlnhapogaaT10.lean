/- Contracts of functions that the law reaches: what they compute. No condition. -/
import Derived.Test.YtjnejhlnhapogaaT9
set_option linter.unusedVariables false
set_option linter.unusedSimpArgs false
namespace Go.Proofs
open Go.Abs Go.NatMath
set_option linter.unusedVariables false
set_option linter.unusedSimpArgs false

/-! ### nat.DivMod -/
def rDM (a b : Nat) : AV := .tup [U (if b = 0 then 0 else a / b), U (if b = 0 then 0 else a % b), .val (.bool (decide (b ≠ 0)))]
def spDivMod : List AV → Option AV := sp2 1 fun L M => some (rDM (nv L) (nv M))
attribute [go_sem] spDivMod
theorem U_zero : U 0 = .lst (ints .u32 []) := by rw [U, limbs_zero]
theorem lst_nil' : AV.lst [] = .lst (ints .u32 []) := rfl
namespace DivMod
def Γ : FuncId → Abs.Spec
  | 27 => .pure spCmp
  | 47 => .pure spTrim
  | 48 => .pure spClone
  | 49 => .pure spShort
  | 50 => .pure spLong
  | _ => .none
theorem ΓOK : ∀ f, SpecOK Try.prog f (Γ f) := by
  intro f
  unfold Γ
  split
  · exact ⟨⟨_, Try.func27, by decide +kernel, rfl⟩, Cmp.ok⟩
  · exact ⟨⟨_, Try.func47, by decide +kernel, rfl⟩, Trim.ok⟩
  · exact ⟨⟨_, Try.func48, by decide +kernel, rfl⟩, Clone.ok⟩
  · exact ⟨⟨_, Try.func49, by decide +kernel, rfl⟩, Short.ok⟩
  · exact ⟨⟨_, Try.func50, by decide +kernel, rfl⟩, Long.ok⟩
  · trivial
attribute [local go_sem] Γ
theorem ok : PureOK Try.prog 19 spDivMod := by
  refine pure_of_awp (n := 48) [4, 5, 6] Try.func19 rfl rfl rfl ?_
  intro M0 w0 args r h
  obtain ⟨L, M, rfl, hL, hLl, hM, hMl, hr⟩ := sp2_some h
  cases hr
  clear h
  refine ⟨by simp, ?_⟩
  have hA := okL_limbs (nv L)
  have hAl := limbs_length_nv hL
  have hC := okL_limbs (nv M)
  have hCl := limbs_length_nv hM
  refine awp_seq_k fun K0 hK0 => ?_
  refine awp_region (Θ := Θ) (Γ := Γ) [0, 1] ΘOK ΓOK rfl ?_
  repeat' (first
    | (with_reducible refine arun_nil ?_)
    | ((with_reducible apply arun_any); (focus exact rfl); (focus (simp (disch := first | assumption | (with_reducible exact okL_limbs _) | omega) only [go_sem, ↓reduceIte, Nat.reduceEqDiff, reduceCtorEq, Nat.reduceAdd]; with_reducible exact rfl)); with_reducible (first | refine okk_some ?_ | (refine okk_ite ?_ ?_; (focus omega)) | (refine okk_ifn ?_ ?_; (focus omega)))))
  all_goals (simp only [go_sem, ↓reduceIte, Nat.reduceEqDiff, reduceCtorEq, Nat.reduceAdd]; refine hK0 _ ?_; clear hK0 K0)
  refine awp_seq_k fun K0 hK0 => ?_
  refine awp_region (Θ := Θ) (Γ := Γ) [0, 1] ΘOK ΓOK rfl ?_
  repeat' (first
    | (with_reducible refine arun_nil ?_)
    | ((with_reducible apply arun_any); (focus exact rfl); (focus (simp (disch := first | assumption | (with_reducible exact okL_limbs _) | omega) only [go_sem, ↓reduceIte, Nat.reduceEqDiff, reduceCtorEq, Nat.reduceAdd]; with_reducible exact rfl)); with_reducible (first | refine okk_some ?_ | (refine okk_ite ?_ ?_; (focus omega)) | (refine okk_ifn ?_ ?_; (focus omega)))))
  all_goals (simp only [go_sem, ↓reduceIte, Nat.reduceEqDiff, reduceCtorEq, Nat.reduceAdd]; refine hK0 _ ?_; clear hK0 K0)
  generalize ha : nv L = a at *
  generalize hb : nv M = b at *
  have hav : nv (limbs a) = a := nv_limbs a
  have hbv : nv (limbs b) = b := nv_limbs b
  have hb0 := @limbs_eq_nil b
  refine awp_seq_k fun K0 hK0 => ?_
  refine awp_block ?_   -- 0
  refine awp_seq_k fun K1 hK1 => ?_
  refine awp_region (Θ := Θ) (Γ := Γ) [0, 1, 13] ΘOK ΓOK rfl ?_
  repeat' (first
    | (with_reducible refine arun_nil ?_)
    | ((with_reducible apply arun_any); (focus exact rfl); (focus (simp (disch := first | assumption | (with_reducible exact okL_limbs _) | omega) only [go_sem, ↓reduceIte, Nat.reduceEqDiff, reduceCtorEq, Nat.reduceAdd]; with_reducible exact rfl)); with_reducible (first | refine okk_some ?_ | (refine okk_ite ?_ ?_; (focus omega)) | (refine okk_ifn ?_ ?_; (focus omega)))))
  all_goals (simp only [go_sem, ↓reduceIte, Nat.reduceEqDiff, reduceCtorEq, Nat.reduceAdd]; refine hK1 _ ?_; clear hK1 K1)
  apply awp_cond
  (focus (simp only [go_sem, ↓reduceIte, Nat.reduceEqDiff, reduceCtorEq, Nat.reduceAdd]; exact rfl))
  all_goals intro hc
  ·
    have h0 : b = 0 := hb0.1 (by simpa using hc)
    refine awp_seq_k fun K1 hK1 => ?_
    refine awp_region (Θ := Θ) (Γ := Γ) [4, 5, 6] ΘOK ΓOK rfl ?_
    repeat' (first
      | (with_reducible refine arun_nil ?_)
      | ((with_reducible apply arun_any); (focus exact rfl); (focus (simp (disch := first | assumption | (with_reducible exact okL_limbs _) | omega) only [go_sem, ↓reduceIte, Nat.reduceEqDiff, reduceCtorEq, Nat.reduceAdd]; with_reducible exact rfl)); with_reducible (first | refine okk_some ?_ | (refine okk_ite ?_ ?_; (focus omega)) | (refine okk_ifn ?_ ?_; (focus omega)))))
    all_goals (simp only [go_sem, ↓reduceIte, Nat.reduceEqDiff, reduceCtorEq, Nat.reduceAdd]; refine hK1 _ ?_; clear hK1 K1)
    refine awp_ret ?_
    subst h0
    simp only [go_sem, ↓reduceIte, Nat.reduceEqDiff, reduceCtorEq, Nat.reduceAdd, Res, rDM, limbs_zero, lst_nil']
  ·
    have h0 : b ≠ 0 := fun e => by rw [hb0.2 e] at hc; simp at hc
    clear hc
    have hd0 : decide (b ≠ 0) = true := by simpa using h0
    refine awp_seq_k fun K1 hK1 => ?_
    refine awp_region (Θ := Θ) (Γ := Γ) [0, 1, 17] ΘOK ΓOK rfl ?_
    repeat' (first
      | (with_reducible refine arun_nil ?_)
      | ((with_reducible apply arun_any); (focus exact rfl); (focus (simp (disch := first | assumption | (with_reducible exact okL_limbs _) | omega) only [go_sem, ↓reduceIte, Nat.reduceEqDiff, reduceCtorEq, Nat.reduceAdd, hav, hbv]; with_reducible exact rfl)); with_reducible (first | refine okk_some ?_ | (refine okk_ite ?_ ?_; (focus omega)) | (refine okk_ifn ?_ ?_; (focus omega)))))
    all_goals (simp only [go_sem, ↓reduceIte, Nat.reduceEqDiff, reduceCtorEq, Nat.reduceAdd]; refine hK1 _ ?_; clear hK1 K1)
    apply awp_cond
    (focus (simp only [go_sem, ↓reduceIte, Nat.reduceEqDiff, reduceCtorEq, Nat.reduceAdd]; exact rfl))
    all_goals intro hc
    ·
      have hlt : a < b := by
        have : cmpN a b < 0 := by simpa using hc
        unfold cmpN at this
        split at this
        · assumption
        · split at this <;> omega
      refine awp_seq_k fun K1 hK1 => ?_
      refine awp_region (Θ := Θ) (Γ := Γ) [4, 5, 6] ΘOK ΓOK rfl ?_
      repeat' (first
        | (with_reducible refine arun_nil ?_)
        | ((with_reducible apply arun_any); (focus exact rfl); (focus (simp (disch := first | assumption | (with_reducible exact okL_limbs _) | omega) only [go_sem, ↓reduceIte, Nat.reduceEqDiff, reduceCtorEq, Nat.reduceAdd]; with_reducible exact rfl)); with_reducible (first | refine okk_some ?_ | (refine okk_ite ?_ ?_; (focus omega)) | (refine okk_ifn ?_ ?_; (focus omega)))))
      all_goals (simp only [go_sem, ↓reduceIte, Nat.reduceEqDiff, reduceCtorEq, Nat.reduceAdd]; refine hK1 _ ?_; clear hK1 K1)
      refine awp_ret ?_
      simp only [go_sem, ↓reduceIte, Nat.reduceEqDiff, reduceCtorEq, Nat.reduceAdd, Res, rDM, h0, hd0, Nat.div_eq_of_lt hlt, Nat.mod_eq_of_lt hlt, limbs_zero, lst_nil']
    ·
      have hge : b ≤ a := by
        have : ¬ cmpN a b < 0 := by simpa using hc
        unfold cmpN at this
        split at this
        · omega
        · omega
      clear hc
      refine awp_seq_k fun K1 hK1 => ?_
      refine awp_region (Θ := Θ) (Γ := Γ) [0, 1, 24] ΘOK ΓOK rfl ?_
      repeat' (first
        | (with_reducible refine arun_nil ?_)
        | ((with_reducible apply arun_any); (focus exact rfl); (focus (simp (disch := first | assumption | (with_reducible exact okL_limbs _) | omega) only [go_sem, ↓reduceIte, Nat.reduceEqDiff, reduceCtorEq, Nat.reduceAdd]; with_reducible exact rfl)); with_reducible (first | refine okk_some ?_ | (refine okk_ite ?_ ?_; (focus omega)) | (refine okk_ifn ?_ ?_; (focus omega)))))
      all_goals (simp only [go_sem, ↓reduceIte, Nat.reduceEqDiff, reduceCtorEq, Nat.reduceAdd]; refine hK1 _ ?_; clear hK1 K1)
      apply awp_cond
      (focus (simp only [go_sem, ↓reduceIte, Nat.reduceEqDiff, reduceCtorEq, Nat.reduceAdd]; exact rfl))
      all_goals intro hc
      ·
        have h1 : (limbs b).length = 1 := by simp at hc; omega
        have hb1 : b < 4294967296 := by
          have := nv_lt hC
          rw [hbv, h1] at this
          unfold B at this
          omega
        have hone := limbs_one h0 hb1
        have hg : (limbs b).getD 0 0 = (b : Int) := by rw [hone]; rfl
        refine awp_seq_k fun K1 hK1 => ?_
        refine awp_region (Θ := Θ) (Γ := Γ) [7, 8] ΘOK ΓOK rfl ?_
        repeat' (first
          | (with_reducible refine arun_nil ?_)
          | ((with_reducible apply arun_any); (focus exact rfl); (focus (simp (disch := first | assumption | (with_reducible exact okL_limbs _) | omega) only [go_sem, ↓reduceIte, Nat.reduceEqDiff, reduceCtorEq, Nat.reduceAdd, hg, hav]; with_reducible exact rfl)); with_reducible (first | refine okk_some ?_ | (refine okk_ite ?_ ?_; (focus omega)) | (refine okk_ifn ?_ ?_; (focus omega)))))
        all_goals (simp only [go_sem, ↓reduceIte, Nat.reduceEqDiff, reduceCtorEq, Nat.reduceAdd]; refine hK1 _ ?_; clear hK1 K1)
        rw [show (a : Int) % (b : Int) = ((a % b : Nat) : Int) by omega]
        have hm := Nat.mod_lt a (show b > 0 by omega)
        have hv : okL [((a % b : Nat) : Int)] := okL_cons.2 ⟨⟨by omega, by omega⟩, okL_nil⟩
        have hvl : [((a % b : Nat) : Int)].length ≤ 35184372088831 := by simp
        have hvv := nv_single (a % b)
        refine awp_seq_k fun K1 hK1 => ?_
        refine awp_region (Θ := Θ) (Γ := Γ) [4, 5, 6] ΘOK ΓOK rfl ?_
        repeat' (first
          | (with_reducible refine arun_nil ?_)
          | ((with_reducible apply arun_any); (focus exact rfl); (focus (simp (disch := first | assumption | (with_reducible exact okL_limbs _) | omega) only [go_sem, ↓reduceIte, Nat.reduceEqDiff, reduceCtorEq, Nat.reduceAdd]; with_reducible exact rfl)); with_reducible (first | refine okk_some ?_ | (refine okk_ite ?_ ?_; (focus omega)) | (refine okk_ifn ?_ ?_; (focus omega)))))
        all_goals (simp only [go_sem, ↓reduceIte, Nat.reduceEqDiff, reduceCtorEq, Nat.reduceAdd]; refine hK1 _ ?_; clear hK1 K1)
        refine awp_ret ?_
        simp only [go_sem, ↓reduceIte, Nat.reduceEqDiff, reduceCtorEq, Nat.reduceAdd, Res, hvv, rDM, h0, hd0]
      ·
        have h2 : 2 ≤ (limbs b).length := by
          have : (limbs b).length ≠ 1 := fun e => by rw [e] at hc; simp at hc
          have : (limbs b).length ≠ 0 := fun e => h0 (hb0.1 (List.eq_nil_of_length_eq_zero e))
          omega
        refine awp_skip ?_
        refine hK0 _ ?_; clear hK0 K0
        refine awp_seq_k fun K0 hK0 => ?_
        refine awp_region (Θ := Θ) (Γ := Γ) [4, 5] ΘOK ΓOK rfl ?_
        repeat' (first
          | (with_reducible refine arun_nil ?_)
          | ((with_reducible apply arun_any); (focus exact rfl); (focus (simp (disch := first | assumption | (with_reducible exact okL_limbs _) | omega) only [go_sem, ↓reduceIte, Nat.reduceEqDiff, reduceCtorEq, Nat.reduceAdd, hav, hbv]; with_reducible exact rfl)); with_reducible (first | refine okk_some ?_ | (refine okk_ite ?_ ?_; (focus omega)) | (refine okk_ifn ?_ ?_; (focus omega)))))
        all_goals (simp only [go_sem, ↓reduceIte, Nat.reduceEqDiff, reduceCtorEq, Nat.reduceAdd]; refine hK0 _ ?_; clear hK0 K0)
        refine awp_seq_k fun K0 hK0 => ?_
        refine awp_region (Θ := Θ) (Γ := Γ) [4, 5, 6] ΘOK ΓOK rfl ?_
        repeat' (first
          | (with_reducible refine arun_nil ?_)
          | ((with_reducible apply arun_any); (focus exact rfl); (focus (simp (disch := first | assumption | (with_reducible exact okL_limbs _) | omega) only [go_sem, ↓reduceIte, Nat.reduceEqDiff, reduceCtorEq, Nat.reduceAdd]; with_reducible exact rfl)); with_reducible (first | refine okk_some ?_ | (refine okk_ite ?_ ?_; (focus omega)) | (refine okk_ifn ?_ ?_; (focus omega)))))
        all_goals (simp only [go_sem, ↓reduceIte, Nat.reduceEqDiff, reduceCtorEq, Nat.reduceAdd]; refine hK0 _ ?_; clear hK0 K0)
        refine awp_ret ?_
        simp only [go_sem, ↓reduceIte, Nat.reduceEqDiff, reduceCtorEq, Nat.reduceAdd, Res, rDM, h0, hd0]
end DivMod
end Go.Proofs

namespace Go.Proofs
open Go.Abs Go.NatMath
set_option linter.unusedVariables false
set_option linter.unusedSimpArgs false

/-! ### the document's bit -/
def spBit : List AV → Option AV
  | [x, .val (.int .i64 k)] => (decK 0 x).bind fun L => if 0 ≤ k ∧ k ≤ 9223372036854775807 then some (.val (.int .u32 ((nv L / 2 ^ k.toNat % 2 : Nat) : Int))) else none
  | _ => none
attribute [go_sem] spBit
theorem spBit_some {args : List AV} {r : AV} (h : spBit args = some r) : ∃ (L : List Int) (k : Nat), args = [.lst (ints .u32 L), .val (.int .i64 k)] ∧ okL L ∧ L.length ≤ 35184372088831 ∧ k ≤ 9223372036854775807 ∧ r = .val (.int .u32 ((nv L / 2 ^ k % 2 : Nat) : Int)) := by
  unfold spBit at h
  split at h
  · obtain ⟨L, h1, h2⟩ := Option.bind_eq_some_iff.1 h
    obtain ⟨rfl, g2, g3⟩ := decK_some h1
    split at h2
    · rename_i hc
      cases h2
      obtain ⟨m, rfl⟩ := Int.eq_ofNat_of_zero_le hc.1
      exact ⟨L, m, rfl, g2, g3, by omega, rfl⟩
    · cases h2
  · cases h
theorem nv_drop : ∀ {L : List Int}, okL L → ∀ i, nv (L.drop i) = nv L / B ^ i
  | [], _, i => by simp [nv]
  | x :: L, h, 0 => by simp
  | x :: L, h, i + 1 => by
    obtain ⟨h1, h2⟩ := okL_cons.1 h
    have e : (x.toNat + B * nv L) / B = nv L := by
      have : x.toNat / B = 0 := Nat.div_eq_of_lt (by unfold B; omega)
      rw [Nat.add_mul_div_left _ _ B_pos, this, Nat.zero_add]
    rw [List.drop_succ_cons, nv_drop h2 i, nv, Nat.pow_succ, Nat.mul_comm (B ^ i) B, ← Nat.div_div_eq_div_mul, e]
theorem getD_nv {L : List Int} (h : okL L) (i : Nat) : L.getD i 0 = ((nv L / B ^ i % B : Nat) : Int) := by
  rw [← nv_drop h i]
  have hx := okL_get h i
  rcases Nat.lt_or_ge i L.length with hi | hi
  · rw [List.drop_eq_getElem_cons hi, nv]
    have e : L.getD i 0 = L[i] := by rw [List.getD_eq_getElem?_getD, List.getElem?_eq_getElem hi]; rfl
    rw [e] at hx ⊢
    rw [Nat.add_mul_mod_self_left, Nat.mod_eq_of_lt (by unfold B; omega)]
    omega
  · rw [List.drop_of_length_le hi, getD_ge L hi]; rfl
theorem B_pow (i : Nat) : B ^ i = 2 ^ (32 * i) := by rw [show B = 2 ^ 32 from rfl, ← Nat.pow_mul]
theorem bit_limb (n k : Nat) : n / 2 ^ k % 2 = n / B ^ (k / 32) % B / 2 ^ (k % 32) % 2 := by
  have e : 2 ^ k = B ^ (k / 32) * 2 ^ (k % 32) := by rw [B_pow, ← Nat.pow_add]; congr 1; omega
  rw [e, ← Nat.div_div_eq_div_mul]
  generalize n / B ^ (k / 32) = m
  have hj : k % 32 < 32 := Nat.mod_lt _ (by decide)
  generalize k % 32 = j at *
  have e2 : B = 2 ^ j * (2 ^ (32 - j)) := by rw [← Nat.pow_add, show j + (32 - j) = 32 by omega]; rfl
  rw [e2, Nat.mod_mul_right_div_self]
  have e3 : 2 ^ (32 - j) = 2 * 2 ^ (31 - j) := by rw [← Nat.pow_succ']; congr 1; omega
  rw [e3, Nat.mod_mul_right_mod]
theorem and_one {y : Int} (h0 : 0 ≤ y) (h1 : y < 4294967296) : bitsOp .and .u32 y 1 = y % 2 := by
  obtain ⟨m, rfl⟩ := Int.eq_ofNat_of_zero_le h0
  rw [bitsOp_u32]
  simp only [BitVec.ofInt_natCast, BitVec.toNat_and, BitVec.toNat_ofNat, show BitVec.ofInt 32 1 = 1#32 from rfl]
  rw [Nat.mod_eq_of_lt (by omega), show 1 % 2 ^ 32 = 1 from rfl, Nat.and_one_is_mod]
  omega
namespace Bit
def Γ : FuncId → Abs.Spec := fun _ => .none
theorem ΓOK : ∀ f, SpecOK Try.prog f (Γ f) := fun _ => trivial
theorem ok : PureOK Try.prog 52 spBit := by
  refine pure_of_awp (n := 19) [4] Try.func52 rfl rfl rfl ?_
  intro M0 w0 args r h
  obtain ⟨L, k, rfl, hL, hLl, hk, rfl⟩ := spBit_some h
  clear h
  refine ⟨by simp, ?_⟩
  have eb := bit_limb (nv L) k
  have hg := getD_nv hL (k / 32)
  have hx := okL_get hL (k / 32)
  have e32 : ((k : Int) / 32).toNat = k / 32 := by omega
  have em : ((k : Int) % 32).toNat = k % 32 := by omega
  have hj : k % 32 < 32 := Nat.mod_lt _ (by decide)
  have hge : L.length ≤ k / 32 → L.getD (k / 32) 0 = 0 := fun h => getD_ge L h
  generalize hxe : L.getD (k / 32) 0 = x at *
  refine awp_seq_k fun K0 hK0 => ?_
  refine awp_region (Θ := Θ) (Γ := Γ) [0, 1] ΘOK ΓOK rfl ?_
  repeat' (first
    | (with_reducible refine arun_nil ?_)
    | ((with_reducible apply arun_any); (focus exact rfl); (focus (simp (disch := first | assumption | (with_reducible exact okL_limbs _) | omega) only [go_sem, ↓reduceIte, Nat.reduceEqDiff, reduceCtorEq, Nat.reduceAdd]; with_reducible exact rfl)); with_reducible (first | refine okk_some ?_ | (refine okk_ite ?_ ?_; (focus omega)) | (refine okk_ifn ?_ ?_; (focus omega)))))
  all_goals (simp only [go_sem, ↓reduceIte, Nat.reduceEqDiff, reduceCtorEq, Nat.reduceAdd]; refine hK0 _ ?_; clear hK0 K0)
  refine awp_seq_k fun K0 hK0 => ?_
  refine awp_seq_k fun K1 hK1 => ?_
  refine awp_region (Θ := Θ) (Γ := Γ) [0, 1, 9] ΘOK ΓOK rfl ?_
  repeat' (first
    | (with_reducible refine arun_nil ?_)
    | ((with_reducible apply arun_any); (focus exact rfl); (focus (simp (disch := first | assumption | (with_reducible exact okL_limbs _) | omega) only [go_sem, ↓reduceIte, Nat.reduceEqDiff, reduceCtorEq, Nat.reduceAdd]; with_reducible exact rfl)); with_reducible (first | refine okk_some ?_ | (refine okk_ite ?_ ?_; (focus omega)) | (refine okk_ifn ?_ ?_; (focus omega)))))
  all_goals (simp only [go_sem, ↓reduceIte, Nat.reduceEqDiff, reduceCtorEq, Nat.reduceAdd]; refine hK1 _ ?_; clear hK1 K1)
  apply awp_cond
  (focus (simp only [go_sem, ↓reduceIte, Nat.reduceEqDiff, reduceCtorEq, Nat.reduceAdd]; exact rfl))
  all_goals intro hc
  ·
    have h0 : x = 0 := hge (by simp at hc; omega)
    refine awp_seq_k fun K1 hK1 => ?_
    refine awp_region (Θ := Θ) (Γ := Γ) [4] ΘOK ΓOK rfl ?_
    repeat' (first
      | (with_reducible refine arun_nil ?_)
      | ((with_reducible apply arun_any); (focus exact rfl); (focus (simp (disch := first | assumption | (with_reducible exact okL_limbs _) | omega) only [go_sem, ↓reduceIte, Nat.reduceEqDiff, reduceCtorEq, Nat.reduceAdd]; with_reducible exact rfl)); with_reducible (first | refine okk_some ?_ | (refine okk_ite ?_ ?_; (focus omega)) | (refine okk_ifn ?_ ?_; (focus omega)))))
    all_goals (simp only [go_sem, ↓reduceIte, Nat.reduceEqDiff, reduceCtorEq, Nat.reduceAdd]; refine hK1 _ ?_; clear hK1 K1)
    refine awp_ret ?_
    rw [eb, show nv L / B ^ (k / 32) % B = 0 by omega]
    simp only [go_sem, ↓reduceIte, Nat.reduceEqDiff, reduceCtorEq, Nat.reduceAdd, Res, Nat.zero_div, Nat.zero_mod]
    rfl
  ·
    have hlt : k / 32 < L.length := by simp at hc; omega
    refine awp_skip ?_
    refine hK0 _ ?_; clear hK0 K0
    have emn : min (k % 32) 32 = k % 32 := by omega
    have hq0 : 0 ≤ x / 2 ^ (k % 32) := Int.ediv_nonneg hx.1 (Int.le_of_lt (pow_pos2 _))
    have hq1 : x / 2 ^ (k % 32) < 4294967296 := Int.lt_of_le_of_lt (Int.ediv_le_self _ hx.1) hx.2
    have ea := and_one hq0 hq1
    have ef : x / 2 ^ (k % 32) % 2 = ((nv L / 2 ^ k % 2 : Nat) : Int) := by
      rw [eb, hg, pow_cast]
      omega
    refine awp_seq_k fun K0 hK0 => ?_
    refine awp_region (Θ := Θ) (Γ := Γ) [4] ΘOK ΓOK rfl ?_
    repeat' (first
      | (with_reducible refine arun_nil ?_)
      | ((with_reducible apply arun_any); (focus exact rfl); (focus (simp (disch := first | assumption | (with_reducible exact okL_limbs _) | omega) only [go_sem, ↓reduceIte, Nat.reduceEqDiff, reduceCtorEq, Nat.reduceAdd, e32, em, hxe, emn, fdiv_pow, ea, ef]; with_reducible exact rfl)); with_reducible (first | refine okk_some ?_ | (refine okk_ite ?_ ?_; (focus omega)) | (refine okk_ifn ?_ ?_; (focus omega)))))
    all_goals (simp only [go_sem, ↓reduceIte, Nat.reduceEqDiff, reduceCtorEq, Nat.reduceAdd]; refine hK0 _ ?_; clear hK0 K0)
    refine awp_ret ?_
    simp only [go_sem, ↓reduceIte, Nat.reduceEqDiff, reduceCtorEq, Nat.reduceAdd, Res]
end Bit

/-! ### the document's push -/
theorem mod_end {R : List Int} {n : Nat} {c t : Int} (hR : okL R) (hl : R.length = n) (h : iv R + W n * c = t) : R = lim n (t % W n).toNat := by
  have h1 := iv_nonneg R
  have h2 := iv_lt hR
  rw [hl] at h2
  refine eq_lim hR hl ?_
  rw [← h, Int.add_mul_emod_self_left, Int.emod_eq_of_lt h1 h2]
  unfold iv; omega
def fPush : List AV → List Int → Option (AV × List Int)
  | [.val (.int .u32 c)], A => if okLb A = true ∧ 0 ≤ c ∧ c ≤ 1 ∧ A.length ≤ 35184372088832 then some (.tup [], lim A.length ((2 * iv A + c) % W A.length).toNat) else none
  | _, _ => none
def spPush : List AV → Hp → Option (AV × Hp) := spInpl .u32 fPush
attribute [go_sem] spPush fPush
theorem fPush_some {rest : List AV} {A : List Int} {p : AV × List Int} (h : fPush rest A = some p) : ∃ c : Int, rest = [.val (.int .u32 c)] ∧ okL A ∧ (0 ≤ c ∧ c ≤ 1) ∧ A.length ≤ 35184372088832 ∧ p = (.tup [], lim A.length ((2 * iv A + c) % W A.length).toNat) := by
  unfold fPush at h
  split at h
  · split at h
    · rename_i hc
      cases h
      exact ⟨_, rfl, (okLb_iff _).1 hc.1, ⟨hc.2.1, hc.2.2.1⟩, hc.2.2.2, rfl⟩
    · cases h
  · cases h
theorem push_step {A R : List Int} (hA : okL A) (hR : okL R) {i : Nat} {c d : Int} (hi : i < R.length) (h : iv (R.take i) + W i * c = 2 * iv (A.take i) + d) (hc : 0 ≤ c ∧ c ≤ 1) :
    iv ((R.set i ((2 * A.getD i 0 + c) % 4294967296)).take (i + 1)) + W (i + 1) * (A.getD i 0 / 2147483648) = 2 * iv (A.take (i + 1)) + d := by
  have hx := okL_get hA i
  rw [iv_take_succ (okL_set hR _ (by omega)), take_set_ge _ _ (Nat.le_refl _), getD_set, if_pos ⟨rfl, hi⟩, iv_take_succ hA, W_succ]
  have e : A.getD i 0 / 2147483648 = (2 * A.getD i 0 + c) / 4294967296 := by omega
  rw [e]
  have hdm := Int.mul_ediv_add_emod (2 * A.getD i 0 + c) 4294967296
  generalize (2 * A.getD i 0 + c) / 4294967296 = u at *
  generalize (2 * A.getD i 0 + c) % 4294967296 = m at *
  generalize A.getD i 0 = x at *
  generalize W i = v at *
  generalize iv (R.take i) = r at *
  generalize iv (A.take i) = a at *
  grind
namespace Push
def Γ : FuncId → Abs.Spec := fun _ => .none
theorem ΓOK : ∀ f, SpecOK Try.prog f (Γ f) := fun _ => trivial
theorem ok : InplOK Try.prog 51 spPush := by
  refine inpl_of_awp (n := 28) [] Try.func51 rfl rfl rfl ?_
  intro M0 w0 e hdr rest off len L S r hol hsp hS hr
  obtain ⟨X, A, Z, rfl, hX, hAl, hd1, hd2, hd3⟩ := split3 hol
  rw [hd1] at hsp
  rw [hd2, hd3]
  obtain ⟨d, rfl, hA, hd, hAm, hp⟩ := fPush_some hsp
  simp only [Prod.mk.injEq] at hp
  obtain ⟨rfl, rfl⟩ := hp
  clear hsp hd1 hd2 hd3 hS hr
  refine ⟨by simp, ?_⟩
  refine awp_seq_k fun K0 hK0 => ?_
  refine awp_region (Θ := Θ) (Γ := Γ) [0, 1, 4] ΘOK ΓOK rfl ?_
  repeat' (first
    | (with_reducible refine arun_nil ?_)
    | ((with_reducible apply arun_any); (focus exact rfl); (focus (simp (disch := first | assumption | (with_reducible exact okL_limbs _) | omega) only [go_sem, ↓reduceIte, Nat.reduceEqDiff, reduceCtorEq, Nat.reduceAdd]; with_reducible exact rfl)); with_reducible (first | refine okk_some ?_ | (refine okk_ite ?_ ?_; (focus omega)) | (refine okk_ifn ?_ ?_; (focus omega)))))
  all_goals (simp only [go_sem, ↓reduceIte, Nat.reduceEqDiff, reduceCtorEq, Nat.reduceAdd]; refine hK0 _ ?_; clear hK0 K0)
  refine awp_block ?_   -- 0
  refine awp_loop_st (ι := Nat × List Int × Int) (fun p => [(0, .ref 1000 off len), (1, vInt .u32 p.2.2), (4, vInt .i64 p.1)]) (fun p => [(1000, ⟨e, 1, ints .u32 (X ++ p.2.1 ++ Z), hdr⟩)]) (fun p => A.length - p.1)
    (fun p => p.1 ≤ A.length ∧ okL p.2.1 ∧ p.2.1.length = A.length ∧ (0 ≤ p.2.2 ∧ p.2.2 ≤ 1) ∧ iv (p.2.1.take p.1) + W p.1 * p.2.2 = 2 * iv (A.take p.1) + d ∧ ∀ k, p.1 ≤ k → p.2.1.getD k 0 = A.getD k 0) (0, A, d)
    ⟨by simp, hA, rfl, hd, by simp [iv_nil, W_zero], fun k _ => rfl⟩ (by simp [agree_cons, agree_nil, slook_cons, vInt]) (by simp) ?_
  rintro ⟨i, R, c⟩ ⟨h1, h2, h3, h4, h6, h7⟩
  simp only at h1 h2 h3 h4 h6 h7 ⊢
  refine awp_seq_k fun K0 hK0 => ?_
  refine awp_seq_k fun K1 hK1 => ?_
  refine awp_region (Θ := Θ) (Γ := Γ) [0, 1, 4, 9] ΘOK ΓOK rfl ?_
  repeat' (first
    | (with_reducible refine arun_nil ?_)
    | ((with_reducible apply arun_any); (focus exact rfl); (focus (simp (disch := first | assumption | (with_reducible exact okL_limbs _) | omega) only [go_sem, ↓reduceIte, Nat.reduceEqDiff, reduceCtorEq, Nat.reduceAdd]; with_reducible exact rfl)); with_reducible (first | refine okk_some ?_ | (refine okk_ite ?_ ?_; (focus omega)) | (refine okk_ifn ?_ ?_; (focus omega)))))
  all_goals (simp only [go_sem, ↓reduceIte, Nat.reduceEqDiff, reduceCtorEq, Nat.reduceAdd]; refine hK1 _ ?_; clear hK1 K1)
  apply awp_cond
  (focus (simp only [go_sem, ↓reduceIte, Nat.reduceEqDiff, reduceCtorEq, Nat.reduceAdd]; exact rfl))
  all_goals intro hc
  ·
    have hi : i < A.length := by simp at hc; omega
    clear hc
    refine awp_skip ?_
    refine hK0 _ ?_; clear hK0 K0
    have hgm := getD_mid (A := X) (R := R) (Z := Z) (off := off) (i := i) hX (by omega)
    have hsm := set_mid (A := X) (R := R) (Z := Z) (off := off) (i := i) hX (by omega)
    have hra := h7 i (Nat.le_refl _)
    rw [hra] at hgm
    have hx := okL_get hA i
    have hst := push_step hA h2 (i := i) (c := c) (by omega) h6 h4
    generalize hxe : A.getD i 0 = x at *
    have hil : off + i < (X ++ R ++ Z).length := by simp; omega
    have em : (x * 2 % 4294967296 + c) % 4294967296 = (2 * x + c) % 4294967296 := by omega
    refine awp_seq_k fun K0 hK0 => ?_
    refine awp_block ?_   -- 1
    refine awp_seq_k fun K1 hK1 => ?_
    refine awp_region (Θ := Θ) (Γ := Γ) [0, 1, 4, 5] ΘOK ΓOK rfl ?_
    repeat' (first
      | (with_reducible refine arun_nil ?_)
      | ((with_reducible apply arun_any); (focus exact rfl); (focus (simp (disch := first | assumption | (with_reducible exact okL_limbs _) | omega) only [go_sem, ↓reduceIte, Nat.reduceEqDiff, reduceCtorEq, Nat.reduceAdd, hgm, hsm, em]; with_reducible exact rfl)); with_reducible (first | refine okk_some ?_ | (refine okk_ite ?_ ?_; (focus omega)) | (refine okk_ifn ?_ ?_; (focus omega)))))
    all_goals (simp only [go_sem, ↓reduceIte, Nat.reduceEqDiff, reduceCtorEq, Nat.reduceAdd]; refine hK1 _ ?_; clear hK1 K1)
    refine awp_seq_k fun K1 hK1 => ?_
    refine awp_region (Θ := Θ) (Γ := Γ) [0, 4, 5] ΘOK ΓOK rfl ?_
    repeat' (first
      | (with_reducible refine arun_nil ?_)
      | ((with_reducible apply arun_any); (focus exact rfl); (focus (simp (disch := first | assumption | (with_reducible exact okL_limbs _) | omega) only [go_sem, ↓reduceIte, Nat.reduceEqDiff, reduceCtorEq, Nat.reduceAdd, hgm, hsm, em]; with_reducible exact rfl)); with_reducible (first | refine okk_some ?_ | (refine okk_ite ?_ ?_; (focus omega)) | (refine okk_ifn ?_ ?_; (focus omega)))))
    all_goals (simp only [go_sem, ↓reduceIte, Nat.reduceEqDiff, reduceCtorEq, Nat.reduceAdd]; refine hK1 _ ?_; clear hK1 K1)
    refine awp_region (Θ := Θ) (Γ := Γ) [0, 1, 4] ΘOK ΓOK rfl ?_
    repeat' (first
      | (with_reducible refine arun_nil ?_)
      | ((with_reducible apply arun_any); (focus exact rfl); (focus (simp (disch := first | assumption | (with_reducible exact okL_limbs _) | omega) only [go_sem, ↓reduceIte, Nat.reduceEqDiff, reduceCtorEq, Nat.reduceAdd, hgm, hsm, em]; with_reducible exact rfl)); with_reducible (first | refine okk_some ?_ | (refine okk_ite ?_ ?_; (focus omega)) | (refine okk_ifn ?_ ?_; (focus omega)))))
    all_goals (simp only [go_sem, ↓reduceIte, Nat.reduceEqDiff, reduceCtorEq, Nat.reduceAdd])
    refine hK0 _ ?_; clear hK0 K0
    refine awp_region (Θ := Θ) (Γ := Γ) [0, 1, 4] ΘOK ΓOK rfl ?_
    repeat' (first
      | (with_reducible refine arun_nil ?_)
      | ((with_reducible apply arun_any); (focus exact rfl); (focus (simp (disch := first | assumption | (with_reducible exact okL_limbs _) | omega) only [go_sem, ↓reduceIte, Nat.reduceEqDiff, reduceCtorEq, Nat.reduceAdd, hgm, hsm, em]; with_reducible exact rfl)); with_reducible (first | refine okk_some ?_ | (refine okk_ite ?_ ?_; (focus omega)) | (refine okk_ifn ?_ ?_; (focus omega)))))
    all_goals (simp only [go_sem, ↓reduceIte, Nat.reduceEqDiff, reduceCtorEq, Nat.reduceAdd])
    refine ⟨(i + 1, R.set i ((2 * x + c) % 4294967296), x / 2147483648), ⟨by simp only; omega, okL_set h2 _ (by omega), by simpa using h3, by simp only; omega, hst, fun k hk => ?_⟩, ?_, rfl, by simp only; omega⟩
    ·
      simp only at hk ⊢
      rw [getD_set, if_neg (by omega)]
      exact h7 k (by omega)
    ·
      first | (simp [agree_cons, agree_nil, slook_cons, vInt]; done) | (simp [agree_cons, agree_nil, slook_cons, vInt]; omega) | (simp [agree_cons, agree_nil, slook_cons, vInt]; grind)
  ·
    have hi : i = A.length := by simp at hc; omega
    subst hi
    rw [iv_take_ge (by omega), iv_take_ge (by omega)] at h6
    refine awp_exit ?_   -- exit 0
    simp only [Nat.reduceEqDiff, ↓reduceIte]
    rw [← mod_end h2 h3 h6]
    exact ⟨rfl, rfl⟩
end Push
end Go.Proofs

namespace Go.Proofs
open Go.Abs Go.NatMath
set_option linter.unusedVariables false
set_option linter.unusedSimpArgs false

/-! ### the document's take -/
def fTake : List AV → List Int → Option (AV × List Int)
  | [x], A => (decK 0 x).bind fun C => if okLb A = true ∧ C.length ≤ A.length ∧ A.length ≤ 35184372088832 then some (.tup [], lim A.length ((iv A - iv C) % W A.length).toNat) else none
  | _, _ => none
def spTake : List AV → Hp → Option (AV × Hp) := spInpl .u32 fTake
attribute [go_sem] spTake fTake
theorem fTake_some {rest : List AV} {A : List Int} {p : AV × List Int} (h : fTake rest A = some p) : ∃ C : List Int, rest = [.lst (ints .u32 C)] ∧ okL C ∧ okL A ∧ C.length ≤ A.length ∧ A.length ≤ 35184372088832 ∧ p = (.tup [], lim A.length ((iv A - iv C) % W A.length).toNat) := by
  unfold fTake at h
  split at h
  · obtain ⟨C, h1, h2⟩ := Option.bind_eq_some_iff.1 h
    obtain ⟨rfl, g2, g3⟩ := decK_some h1
    split at h2
    · rename_i hc
      cases h2
      exact ⟨C, rfl, g2, (okLb_iff _).1 hc.1, hc.2.1, hc.2.2, rfl⟩
    · cases h2
  · cases h
theorem take_step {A C R : List Int} (hA : okL A) (hC : okL C) (hR : okL R) {i : Nat} {w d w2 : Int} (hi : i < R.length) (h : iv (R.take i) + W i * (- w) = iv (A.take i) - iv (C.take i)) (hd : d = A.getD i 0 - w - C.getD i 0 + 4294967296 * w2) (hd0 : 0 ≤ d ∧ d < 4294967296) :
    iv ((R.set i d).take (i + 1)) + W (i + 1) * (- w2) = iv (A.take (i + 1)) - iv (C.take (i + 1)) := by
  rw [iv_take_succ (okL_set hR _ hd0), take_set_ge _ _ (Nat.le_refl _), getD_set, if_pos ⟨rfl, hi⟩, iv_take_succ hA, iv_take_succ hC, W_succ]
  generalize A.getD i 0 = x at *
  generalize C.getD i 0 = y at *
  generalize W i = v at *
  generalize iv (R.take i) = r at *
  generalize iv (A.take i) = a at *
  generalize iv (C.take i) = b at *
  grind
namespace Take
def Γ : FuncId → Abs.Spec := fun _ => .none
theorem ΓOK : ∀ f, SpecOK Try.prog f (Γ f) := fun _ => trivial
theorem ok : InplOK Try.prog 53 spTake := by
  refine inpl_of_awp (n := 40) [] Try.func53 rfl rfl rfl ?_
  intro M0 w0 e hdr rest off len L S r hol hsp hS hr
  obtain ⟨X, A, Z, rfl, hX, hAl, hd1, hd2, hd3⟩ := split3 hol
  rw [hd1] at hsp
  rw [hd2, hd3]
  obtain ⟨C, rfl, hC, hA, hCA, hAm, hp⟩ := fTake_some hsp
  simp only [Prod.mk.injEq] at hp
  obtain ⟨rfl, rfl⟩ := hp
  clear hsp hd1 hd2 hd3 hS hr
  refine ⟨by simp, ?_⟩
  refine awp_seq_k fun K0 hK0 => ?_
  refine awp_region (Θ := Θ) (Γ := Γ) [0, 1, 4] ΘOK ΓOK rfl ?_
  repeat' (first
    | (with_reducible refine arun_nil ?_)
    | ((with_reducible apply arun_any); (focus exact rfl); (focus (simp (disch := first | assumption | (with_reducible exact okL_limbs _) | omega) only [go_sem, ↓reduceIte, Nat.reduceEqDiff, reduceCtorEq, Nat.reduceAdd]; with_reducible exact rfl)); with_reducible (first | refine okk_some ?_ | (refine okk_ite ?_ ?_; (focus omega)) | (refine okk_ifn ?_ ?_; (focus omega)))))
  all_goals (simp only [go_sem, ↓reduceIte, Nat.reduceEqDiff, reduceCtorEq, Nat.reduceAdd]; refine hK0 _ ?_; clear hK0 K0)
  refine awp_seq_k fun K0 hK0 => ?_
  refine awp_region (Θ := Θ) (Γ := Γ) [0, 1, 4, 5] ΘOK ΓOK rfl ?_
  repeat' (first
    | (with_reducible refine arun_nil ?_)
    | ((with_reducible apply arun_any); (focus exact rfl); (focus (simp (disch := first | assumption | (with_reducible exact okL_limbs _) | omega) only [go_sem, ↓reduceIte, Nat.reduceEqDiff, reduceCtorEq, Nat.reduceAdd]; with_reducible exact rfl)); with_reducible (first | refine okk_some ?_ | (refine okk_ite ?_ ?_; (focus omega)) | (refine okk_ifn ?_ ?_; (focus omega)))))
  all_goals (simp only [go_sem, ↓reduceIte, Nat.reduceEqDiff, reduceCtorEq, Nat.reduceAdd]; refine hK0 _ ?_; clear hK0 K0)
  refine awp_block ?_   -- 0
  refine awp_loop_st (ι := Nat × List Int × Int) (fun p => [(0, .ref 1000 off len), (1, .lst (ints .u32 C)), (4, vInt .i64 p.2.2), (5, vInt .i64 p.1)]) (fun p => [(1000, ⟨e, 1, ints .u32 (X ++ p.2.1 ++ Z), hdr⟩)]) (fun p => A.length - p.1)
    (fun p => p.1 ≤ A.length ∧ okL p.2.1 ∧ p.2.1.length = A.length ∧ (p.2.2 = 0 ∨ p.2.2 = 1) ∧ iv (p.2.1.take p.1) + W p.1 * (- p.2.2) = iv (A.take p.1) - iv (C.take p.1) ∧ ∀ k, p.1 ≤ k → p.2.1.getD k 0 = A.getD k 0) (0, A, 0)
    ⟨by simp, hA, rfl, .inl rfl, by simp [iv_nil, W_zero], fun k _ => rfl⟩ (by simp [agree_cons, agree_nil, slook_cons, vInt]) (by simp) ?_
  rintro ⟨i, R, w⟩ ⟨h1, h2, h3, h4, h6, h7⟩
  simp only at h1 h2 h3 h4 h6 h7 ⊢
  refine awp_seq_k fun K0 hK0 => ?_
  refine awp_seq_k fun K1 hK1 => ?_
  refine awp_region (Θ := Θ) (Γ := Γ) [0, 1, 4, 5, 10] ΘOK ΓOK rfl ?_
  repeat' (first
    | (with_reducible refine arun_nil ?_)
    | ((with_reducible apply arun_any); (focus exact rfl); (focus (simp (disch := first | assumption | (with_reducible exact okL_limbs _) | omega) only [go_sem, ↓reduceIte, Nat.reduceEqDiff, reduceCtorEq, Nat.reduceAdd]; with_reducible exact rfl)); with_reducible (first | refine okk_some ?_ | (refine okk_ite ?_ ?_; (focus omega)) | (refine okk_ifn ?_ ?_; (focus omega)))))
  all_goals (simp only [go_sem, ↓reduceIte, Nat.reduceEqDiff, reduceCtorEq, Nat.reduceAdd]; refine hK1 _ ?_; clear hK1 K1)
  apply awp_cond
  (focus (simp only [go_sem, ↓reduceIte, Nat.reduceEqDiff, reduceCtorEq, Nat.reduceAdd]; exact rfl))
  all_goals intro hc
  ·
    have hi : i < A.length := by simp at hc; omega
    clear hc
    refine awp_skip ?_
    refine hK0 _ ?_; clear hK0 K0
    have hgm := getD_mid (A := X) (R := R) (Z := Z) (off := off) (i := i) hX (by omega)
    have hsm := set_mid (A := X) (R := R) (Z := Z) (off := off) (i := i) hX (by omega)
    have hra := h7 i (Nat.le_refl _)
    rw [hra] at hgm
    have hx := okL_get hA i
    have hy := okL_get hC i
    have hy0 : C.length ≤ i → C.getD i 0 = 0 := fun h => getD_ge C h
    have hst := fun d w2 => take_step hA hC h2 (i := i) (w := w) (d := d) (w2 := w2) (by omega) h6
    generalize hxe : A.getD i 0 = x at *
    generalize hye : C.getD i 0 = y at *
    have hil : off + i < (X ++ R ++ Z).length := by simp; omega
    refine awp_seq_k fun K0 hK0 => ?_
    refine awp_block ?_   -- 1
    refine awp_seq_k fun K1 hK1 => ?_
    refine awp_region (Θ := Θ) (Γ := Γ) [0, 1, 5, 6] ΘOK ΓOK rfl ?_
    repeat' (first
      | (with_reducible refine arun_nil ?_)
      | ((with_reducible apply arun_any); (focus exact rfl); (focus (simp (disch := first | assumption | (with_reducible exact okL_limbs _) | omega) only [go_sem, ↓reduceIte, Nat.reduceEqDiff, reduceCtorEq, Nat.reduceAdd, hgm]; with_reducible exact rfl)); with_reducible (first | refine okk_some ?_ | (refine okk_ite ?_ ?_; (focus omega)) | (refine okk_ifn ?_ ?_; (focus omega)))))
    all_goals (simp only [go_sem, ↓reduceIte, Nat.reduceEqDiff, reduceCtorEq, Nat.reduceAdd]; refine hK1 _ ?_; clear hK1 K1)
    refine awp_seq_k fun K1 hK1 => ?_
    have fin1 : ∀ (t : Int) (σ : St), t = x - w - y → agree [(0, .ref 1000 off len), (1, .lst (ints .u32 C)), (5, vInt .i64 i), (6, vInt .i64 t)] σ.t → σ.h = hlook [(1000, ⟨e, 1, ints .u32 (X ++ R ++ Z), hdr⟩)] → K1 σ := by
      intro t σ ht hag hh
      refine hK1 σ ?_
      refine awp_forget _ hag ?_
      rw [hh]
      clear hag hh
      refine awp_seq_k fun K2 hK2 => ?_
      refine awp_region (Θ := Θ) (Γ := Γ) [0, 1, 4, 5, 6] ΘOK ΓOK rfl ?_
      repeat' (first
        | (with_reducible refine arun_nil ?_)
        | ((with_reducible apply arun_any); (focus exact rfl); (focus (simp (disch := first | assumption | (with_reducible exact okL_limbs _) | omega) only [go_sem, ↓reduceIte, Nat.reduceEqDiff, reduceCtorEq, Nat.reduceAdd]; with_reducible exact rfl)); with_reducible (first | refine okk_some ?_ | (refine okk_ite ?_ ?_; (focus omega)) | (refine okk_ifn ?_ ?_; (focus omega)))))
      all_goals (simp only [go_sem, ↓reduceIte, Nat.reduceEqDiff, reduceCtorEq, Nat.reduceAdd]; refine hK2 _ ?_; clear hK2 K2)
      refine awp_seq_k fun K2 hK2 => ?_
      have fin2 : ∀ (d w2 : Int) (σ : St), d = t + 4294967296 * w2 → (w2 = 0 ∨ w2 = 1) → (0 ≤ d ∧ d < 4294967296) → agree [(0, .ref 1000 off len), (1, .lst (ints .u32 C)), (4, vInt .i64 w2), (5, vInt .i64 i), (6, vInt .i64 d)] σ.t → σ.h = hlook [(1000, ⟨e, 1, ints .u32 (X ++ R ++ Z), hdr⟩)] → K2 σ := by
        intro d w2 σ hdt hw2 hd0 hag hh
        refine hK2 σ ?_
        refine awp_forget _ hag ?_
        rw [hh]
        clear hag hh
        have ed : d % 4294967296 = d := by omega
        refine awp_region (Θ := Θ) (Γ := Γ) [0, 1, 4, 5] ΘOK ΓOK rfl ?_
        repeat' (first
          | (with_reducible refine arun_nil ?_)
          | ((with_reducible apply arun_any); (focus exact rfl); (focus (simp (disch := first | assumption | (with_reducible exact okL_limbs _) | omega) only [go_sem, ↓reduceIte, Nat.reduceEqDiff, reduceCtorEq, Nat.reduceAdd, hsm, ed]; with_reducible exact rfl)); with_reducible (first | refine okk_some ?_ | (refine okk_ite ?_ ?_; (focus omega)) | (refine okk_ifn ?_ ?_; (focus omega)))))
        all_goals (simp only [go_sem, ↓reduceIte, Nat.reduceEqDiff, reduceCtorEq, Nat.reduceAdd])
        refine hK0 _ ?_
        refine awp_region (Θ := Θ) (Γ := Γ) [0, 1, 4, 5] ΘOK ΓOK rfl ?_
        repeat' (first
          | (with_reducible refine arun_nil ?_)
          | ((with_reducible apply arun_any); (focus exact rfl); (focus (simp (disch := first | assumption | (with_reducible exact okL_limbs _) | omega) only [go_sem, ↓reduceIte, Nat.reduceEqDiff, reduceCtorEq, Nat.reduceAdd, hsm, ed]; with_reducible exact rfl)); with_reducible (first | refine okk_some ?_ | (refine okk_ite ?_ ?_; (focus omega)) | (refine okk_ifn ?_ ?_; (focus omega)))))
        all_goals (simp only [go_sem, ↓reduceIte, Nat.reduceEqDiff, reduceCtorEq, Nat.reduceAdd])
        refine ⟨(i + 1, R.set i d, w2), ⟨by simp only; omega, okL_set h2 _ hd0, by simpa using h3, hw2, hst d w2 (by omega) hd0, fun k hk => ?_⟩, ?_, rfl, by simp only; omega⟩
        ·
          simp only at hk ⊢
          rw [getD_set, if_neg (by omega)]
          exact h7 k (by omega)
        ·
          first | (simp [agree_cons, agree_nil, slook_cons, vInt]; done) | (simp [agree_cons, agree_nil, slook_cons, vInt]; omega) | (simp [agree_cons, agree_nil, slook_cons, vInt]; grind)
      refine awp_seq_k fun K3 hK3 => ?_
      refine awp_region (Θ := Θ) (Γ := Γ) [0, 1, 4, 5, 6, 32] ΘOK ΓOK rfl ?_
      repeat' (first
        | (with_reducible refine arun_nil ?_)
        | ((with_reducible apply arun_any); (focus exact rfl); (focus (simp (disch := first | assumption | (with_reducible exact okL_limbs _) | omega) only [go_sem, ↓reduceIte, Nat.reduceEqDiff, reduceCtorEq, Nat.reduceAdd]; with_reducible exact rfl)); with_reducible (first | refine okk_some ?_ | (refine okk_ite ?_ ?_; (focus omega)) | (refine okk_ifn ?_ ?_; (focus omega)))))
      all_goals (simp only [go_sem, ↓reduceIte, Nat.reduceEqDiff, reduceCtorEq, Nat.reduceAdd]; refine hK3 _ ?_; clear hK3 K3)
      apply awp_cond
      (focus (simp only [go_sem, ↓reduceIte, Nat.reduceEqDiff, reduceCtorEq, Nat.reduceAdd]; exact rfl))
      all_goals intro hc
      ·
        have hneg : t < 0 := by simpa using hc
        refine awp_seq_k fun K3 hK3 => ?_
        refine awp_region (Θ := Θ) (Γ := Γ) [0, 1, 5, 6] ΘOK ΓOK rfl ?_
        repeat' (first
          | (with_reducible refine arun_nil ?_)
          | ((with_reducible apply arun_any); (focus exact rfl); (focus (simp (disch := first | assumption | (with_reducible exact okL_limbs _) | omega) only [go_sem, ↓reduceIte, Nat.reduceEqDiff, reduceCtorEq, Nat.reduceAdd]; with_reducible exact rfl)); with_reducible (first | refine okk_some ?_ | (refine okk_ite ?_ ?_; (focus omega)) | (refine okk_ifn ?_ ?_; (focus omega)))))
        all_goals (simp only [go_sem, ↓reduceIte, Nat.reduceEqDiff, reduceCtorEq, Nat.reduceAdd]; refine hK3 _ ?_; clear hK3 K3)
        refine awp_region (Θ := Θ) (Γ := Γ) [0, 1, 4, 5, 6] ΘOK ΓOK rfl ?_
        repeat' (first
          | (with_reducible refine arun_nil ?_)
          | ((with_reducible apply arun_any); (focus exact rfl); (focus (simp (disch := first | assumption | (with_reducible exact okL_limbs _) | omega) only [go_sem, ↓reduceIte, Nat.reduceEqDiff, reduceCtorEq, Nat.reduceAdd]; with_reducible exact rfl)); with_reducible (first | refine okk_some ?_ | (refine okk_ite ?_ ?_; (focus omega)) | (refine okk_ifn ?_ ?_; (focus omega)))))
        all_goals (simp only [go_sem, ↓reduceIte, Nat.reduceEqDiff, reduceCtorEq, Nat.reduceAdd])
        refine fin2 (t + 4294967296) 1 _ (by omega) (.inr rfl) (by omega) ?_ rfl
        first | (simp [agree_cons, agree_nil, slook_cons, vInt]; done) | (simp [agree_cons, agree_nil, slook_cons, vInt]; omega) | (simp [agree_cons, agree_nil, slook_cons, vInt]; grind)
      ·
        have hnn : 0 ≤ t := by simpa using hc
        refine awp_skip ?_
        refine fin2 t 0 _ (by omega) (.inl rfl) (by omega) ?_ rfl
        first | (simp [agree_cons, agree_nil, slook_cons, vInt]; done) | (simp [agree_cons, agree_nil, slook_cons, vInt]; omega) | (simp [agree_cons, agree_nil, slook_cons, vInt]; grind)
    refine awp_seq_k fun K2 hK2 => ?_
    refine awp_region (Θ := Θ) (Γ := Γ) [0, 1, 5, 6, 23] ΘOK ΓOK rfl ?_
    repeat' (first
      | (with_reducible refine arun_nil ?_)
      | ((with_reducible apply arun_any); (focus exact rfl); (focus (simp (disch := first | assumption | (with_reducible exact okL_limbs _) | omega) only [go_sem, ↓reduceIte, Nat.reduceEqDiff, reduceCtorEq, Nat.reduceAdd]; with_reducible exact rfl)); with_reducible (first | refine okk_some ?_ | (refine okk_ite ?_ ?_; (focus omega)) | (refine okk_ifn ?_ ?_; (focus omega)))))
    all_goals (simp only [go_sem, ↓reduceIte, Nat.reduceEqDiff, reduceCtorEq, Nat.reduceAdd]; refine hK2 _ ?_; clear hK2 K2)
    apply awp_cond
    (focus (simp only [go_sem, ↓reduceIte, Nat.reduceEqDiff, reduceCtorEq, Nat.reduceAdd]; exact rfl))
    all_goals intro hc
    ·
      have hic : i < C.length := by simpa using hc
      refine awp_region (Θ := Θ) (Γ := Γ) [0, 1, 5, 6] ΘOK ΓOK rfl ?_
      repeat' (first
        | (with_reducible refine arun_nil ?_)
        | ((with_reducible apply arun_any); (focus exact rfl); (focus (simp (disch := first | assumption | (with_reducible exact okL_limbs _) | omega) only [go_sem, ↓reduceIte, Nat.reduceEqDiff, reduceCtorEq, Nat.reduceAdd, hye]; with_reducible exact rfl)); with_reducible (first | refine okk_some ?_ | (refine okk_ite ?_ ?_; (focus omega)) | (refine okk_ifn ?_ ?_; (focus omega)))))
      all_goals (simp only [go_sem, ↓reduceIte, Nat.reduceEqDiff, reduceCtorEq, Nat.reduceAdd])
      refine fin1 (x - w - y) _ rfl ?_ rfl
      first | (simp [agree_cons, agree_nil, slook_cons, vInt]; done) | (simp [agree_cons, agree_nil, slook_cons, vInt]; omega) | (simp [agree_cons, agree_nil, slook_cons, vInt]; grind)
    ·
      have hic : C.length ≤ i := by simp at hc; omega
      have := hy0 hic
      refine awp_skip ?_
      refine fin1 (x - w) _ (by omega) ?_ rfl
      first | (simp [agree_cons, agree_nil, slook_cons, vInt]; done) | (simp [agree_cons, agree_nil, slook_cons, vInt]; omega) | (simp [agree_cons, agree_nil, slook_cons, vInt]; grind)
  ·
    have hi : i = A.length := by simp at hc; omega
    subst hi
    rw [iv_take_ge (by omega), iv_take_ge (by omega), iv_take_ge hCA] at h6
    refine awp_exit ?_   -- exit 0
    simp only [Nat.reduceEqDiff, ↓reduceIte]
    rw [← mod_end h2 h3 h6]
    exact ⟨rfl, rfl⟩
end Take
end Go.Proofs

namespace Go.Proofs
open Go.Abs Go.NatMath
set_option linter.unusedVariables false
set_option linter.unusedSimpArgs false

/-! ### the document's DivMod -/
theorem rdm_step {A b bit : Nat} (hb : 0 < b) (hbit : bit < 2) :
    (b ≤ 2 * (A % b) + bit → (2 * A + bit) / b = 2 * (A / b) + 1 ∧ (2 * A + bit) % b = 2 * (A % b) + bit - b) ∧ (2 * (A % b) + bit < b → (2 * A + bit) / b = 2 * (A / b) ∧ (2 * A + bit) % b = 2 * (A % b) + bit) := by
  have hd := Nat.mod_add_div A b
  have hm := Nat.mod_lt A hb
  generalize A % b = r at *
  generalize A / b = q at *
  constructor
  · intro h
    have e : 2 * A + bit = b * (2 * q + 1) + (2 * r + bit - b) := by
      rw [← hd, Nat.mul_add b, Nat.mul_one, Nat.mul_left_comm b 2 q]
      omega
    rw [e, Nat.mul_add_div hb, Nat.mul_add_mod, Nat.div_eq_of_lt (by omega), Nat.mod_eq_of_lt (by omega)]
    exact ⟨rfl, rfl⟩
  · intro h
    have e : 2 * A + bit = b * (2 * q) + (2 * r + bit) := by
      rw [← hd, Nat.mul_left_comm b 2 q]
      omega
    rw [e, Nat.mul_add_div hb, Nat.mul_add_mod, Nat.div_eq_of_lt h, Nat.mod_eq_of_lt h]
    exact ⟨rfl, rfl⟩
theorem half_step (a k : Nat) : a / 2 ^ k = 2 * (a / 2 ^ (k + 1)) + a / 2 ^ k % 2 := by
  rw [Nat.pow_succ, ← Nat.div_div_eq_div_mul]
  omega
theorem setbit {Q : List Int} {k q : Nat} (hQ : okL Q) (hk : k / 32 < Q.length) (hv : nv Q = q * 2 ^ (k + 1)) :
    (0 ≤ Q.getD (k / 32) 0 + 2 ^ (k % 32) ∧ Q.getD (k / 32) 0 + 2 ^ (k % 32) < 4294967296) ∧ nv (Q.set (k / 32) (Q.getD (k / 32) 0 + 2 ^ (k % 32))) = nv Q + 2 ^ k := by
  have hj : k % 32 < 32 := Nat.mod_lt _ (by decide)
  have hx := okL_get hQ (k / 32)
  have hg := getD_nv hQ (k / 32)
  have e1 : nv Q / B ^ (k / 32) = q * 2 ^ (k % 32 + 1) := by
    rw [hv, B_pow]
    have : 2 ^ (k + 1) = 2 ^ (k % 32 + 1) * 2 ^ (32 * (k / 32)) := by rw [← Nat.pow_add]; congr 1; omega
    rw [this, ← Nat.mul_assoc, Nat.mul_div_cancel _ (Nat.pow_pos (by decide))]
  have hmod : Q.getD (k / 32) 0 % 2 ^ (k % 32 + 1) = 0 := by
    rw [hg, e1, pow_cast, ← Int.natCast_emod]
    have hd : 2 ^ (k % 32 + 1) ∣ B := ⟨2 ^ (31 - k % 32), by rw [← Nat.pow_add, show k % 32 + 1 + (31 - k % 32) = 32 by omega]; rfl⟩
    rw [Nat.mod_mod_of_dvd _ hd, Nat.mul_mod_left]
    rfl
  have hr := low_room (pow_pos2 (k % 32 + 1)) (pow_dvd32 (n := k % 32 + 1) (by omega)) hx.2 hmod
  have hp := pow_pos2 (k % 32)
  have e2 : (2 : Int) ^ (k % 32 + 1) = 2 ^ (k % 32) * 2 := Int.pow_succ _ _
  have hb : 0 ≤ Q.getD (k / 32) 0 + 2 ^ (k % 32) ∧ Q.getD (k / 32) 0 + 2 ^ (k % 32) < 4294967296 := by omega
  refine ⟨hb, ?_⟩
  have hs := iv_set hQ (k / 32) hb.1 hb.2 hk
  have e3 : W (k / 32) * (Q.getD (k / 32) 0 + 2 ^ (k % 32) - Q.getD (k / 32) 0) = ((2 ^ k : Nat) : Int) := by
    rw [show Q.getD (k / 32) 0 + 2 ^ (k % 32) - Q.getD (k / 32) 0 = 2 ^ (k % 32) by omega, W_nat, pow_cast, ← Int.natCast_mul, B_pow, ← Nat.pow_add]
    congr 2; omega
  rw [e3] at hs
  unfold iv at hs
  omega
theorem bl_le32 {a la : Nat} (h : (limbs a).length = la) {k : Nat} (hk : k < bl a) : k / 32 < la := by
  have h1 := nv_lt (okL_limbs a)
  rw [nv_limbs, h, B_pow] at h1
  have := bl_le h1
  omega

namespace RDivMod
def Γ : FuncId → Abs.Spec
  | 26 => .pure spPlain
  | 28 => .pure spCmp
  | 30 => .pure spBits
  | 38 => .pure spSmall
  | 40 => .pure spOf
  | 51 => .inpl spPush
  | 52 => .pure spBit
  | 53 => .inpl spTake
  | _ => .none
theorem ΓOK : ∀ f, SpecOK Try.prog f (Γ f) := by
  intro f
  unfold Γ
  split
  · exact ⟨⟨_, Try.func26, by decide +kernel, rfl⟩, RPlain.ok⟩
  · exact ⟨⟨_, Try.func28, by decide +kernel, rfl⟩, RCmp.ok⟩
  · exact ⟨⟨_, Try.func30, by decide +kernel, rfl⟩, RBits.ok⟩
  · exact ⟨⟨_, Try.func38, by decide +kernel, rfl⟩, RSmall.ok⟩
  · exact ⟨⟨_, Try.func40, by decide +kernel, rfl⟩, ROf.ok⟩
  · exact ⟨⟨_, Try.func51, by decide +kernel, rfl⟩, Push.ok⟩
  · exact ⟨⟨_, Try.func52, by decide +kernel, rfl⟩, Bit.ok⟩
  · exact ⟨⟨_, Try.func53, by decide +kernel, rfl⟩, Take.ok⟩
  · trivial
attribute [local go_sem] Γ
theorem take_op {pos : String} {af : Array Edge} {ty : TypeId} {ats : Array TypeId} {t : Nat → AV} {S C : List Int} {bQ : Buf} {x : Nat} (h66 : t 66 = .own 49) (h67 : t 67 = .lst (ints .u32 C))
    (hS : okL S) (hC : okL C) (hCS : C.length ≤ S.length) (hSm : S.length ≤ 35184372088831) (hr : (iv S - iv C) % W S.length = (x : Int)) :
    astep Θ Γ ⟨some 68, .call { callee := .value (.func 53), args := #[.tmp 66, .tmp 67], argTypes := ats }, ty, pos, af, none⟩ ⟨t, hlook [(45, bQ), (49, ⟨48, 1, ints .u32 S, none⟩)]⟩ =
      some ⟨upd t 68 (.tup []), hlook [(45, bQ), (49, ⟨48, 1, ints .u32 (lim S.length x), none⟩)]⟩ := by
  simp (disch := first | assumption | omega) only [go_sem, ↓reduceIte, Nat.reduceEqDiff, reduceCtorEq, Nat.reduceAdd, h66, h67, hr]
  rw [if_pos (by omega)]
set_option maxHeartbeats 2000000 in
theorem ok : PureOK Try.prog 20 spDivMod := by
  refine pure_of_awp (n := 86) [4, 5, 6] Try.func20 rfl rfl rfl ?_
  intro M0 w0 args r h
  obtain ⟨L, M, rfl, hL, hLl, hM, hMl, hr⟩ := sp2_some h
  cases hr
  clear h
  refine ⟨by simp, ?_⟩
  have hA := okL_limbs (nv L)
  have hAl := limbs_length_nv hL
  have hC := okL_limbs (nv M)
  have hCl := limbs_length_nv hM
  refine awp_seq_k fun K0 hK0 => ?_
  refine awp_region (Θ := Θ) (Γ := Γ) [0, 1] ΘOK ΓOK rfl ?_
  repeat' (first
    | (with_reducible refine arun_nil ?_)
    | ((with_reducible apply arun_any); (focus exact rfl); (focus (simp (disch := first | assumption | (with_reducible exact okL_limbs _) | omega) only [go_sem, ↓reduceIte, Nat.reduceEqDiff, reduceCtorEq, Nat.reduceAdd]; with_reducible exact rfl)); with_reducible (first | refine okk_some ?_ | (refine okk_ite ?_ ?_; (focus omega)) | (refine okk_ifn ?_ ?_; (focus omega)))))
  all_goals (simp only [go_sem, ↓reduceIte, Nat.reduceEqDiff, reduceCtorEq, Nat.reduceAdd]; refine hK0 _ ?_; clear hK0 K0)
  refine awp_seq_k fun K0 hK0 => ?_
  refine awp_region (Θ := Θ) (Γ := Γ) [0, 1] ΘOK ΓOK rfl ?_
  repeat' (first
    | (with_reducible refine arun_nil ?_)
    | ((with_reducible apply arun_any); (focus exact rfl); (focus (simp (disch := first | assumption | (with_reducible exact okL_limbs _) | omega) only [go_sem, ↓reduceIte, Nat.reduceEqDiff, reduceCtorEq, Nat.reduceAdd]; with_reducible exact rfl)); with_reducible (first | refine okk_some ?_ | (refine okk_ite ?_ ?_; (focus omega)) | (refine okk_ifn ?_ ?_; (focus omega)))))
  all_goals (simp only [go_sem, ↓reduceIte, Nat.reduceEqDiff, reduceCtorEq, Nat.reduceAdd]; refine hK0 _ ?_; clear hK0 K0)
  generalize ha : nv L = a at *
  generalize hb : nv M = b at *
  have hav : nv (limbs a) = a := nv_limbs a
  have hbv : nv (limbs b) = b := nv_limbs b
  have hb0 := @limbs_eq_nil b
  refine awp_seq_k fun K0 hK0 => ?_
  refine awp_seq_k fun K1 hK1 => ?_
  refine awp_region (Θ := Θ) (Γ := Γ) [0, 1, 20] ΘOK ΓOK rfl ?_
  repeat' (first
    | (with_reducible refine arun_nil ?_)
    | ((with_reducible apply arun_any); (focus exact rfl); (focus (simp (disch := first | assumption | (with_reducible exact okL_limbs _) | omega) only [go_sem, ↓reduceIte, Nat.reduceEqDiff, reduceCtorEq, Nat.reduceAdd]; with_reducible exact rfl)); with_reducible (first | refine okk_some ?_ | (refine okk_ite ?_ ?_; (focus omega)) | (refine okk_ifn ?_ ?_; (focus omega)))))
  all_goals (simp only [go_sem, ↓reduceIte, Nat.reduceEqDiff, reduceCtorEq, Nat.reduceAdd]; refine hK1 _ ?_; clear hK1 K1)
  apply awp_cond
  (focus (simp only [go_sem, ↓reduceIte, Nat.reduceEqDiff, reduceCtorEq, Nat.reduceAdd]; exact rfl))
  all_goals intro hc
  ·
    have h0 : b = 0 := hb0.1 (by simpa using hc)
    refine awp_seq_k fun K1 hK1 => ?_
    refine awp_region (Θ := Θ) (Γ := Γ) [4, 5, 6] ΘOK ΓOK rfl ?_
    repeat' (first
      | (with_reducible refine arun_nil ?_)
      | ((with_reducible apply arun_any); (focus exact rfl); (focus (simp (disch := first | assumption | (with_reducible exact okL_limbs _) | omega) only [go_sem, ↓reduceIte, Nat.reduceEqDiff, reduceCtorEq, Nat.reduceAdd]; with_reducible exact rfl)); with_reducible (first | refine okk_some ?_ | (refine okk_ite ?_ ?_; (focus omega)) | (refine okk_ifn ?_ ?_; (focus omega)))))
    all_goals (simp only [go_sem, ↓reduceIte, Nat.reduceEqDiff, reduceCtorEq, Nat.reduceAdd]; refine hK1 _ ?_; clear hK1 K1)
    refine awp_ret ?_
    subst h0
    simp only [go_sem, ↓reduceIte, Nat.reduceEqDiff, reduceCtorEq, Nat.reduceAdd, Res, rDM, limbs_zero, lst_nil']
  ·
    have h0 : b ≠ 0 := fun e => by rw [hb0.2 e] at hc; simp at hc
    have hbp : 0 < b := by omega
    clear hc
    have hd0 : decide (b ≠ 0) = true := by simpa using h0
    refine awp_skip ?_
    refine hK0 _ ?_; clear hK0 K0
    refine awp_seq_k fun K0 hK0 => ?_
    refine awp_region (Θ := Θ) (Γ := Γ) [0, 1, 7, 8] ΘOK ΓOK rfl ?_
    repeat' (first
      | (with_reducible refine arun_nil ?_)
      | ((with_reducible apply arun_any); (focus exact rfl); (focus (simp (disch := first | assumption | (with_reducible exact okL_limbs _) | omega) only [go_sem, ↓reduceIte, Nat.reduceEqDiff, reduceCtorEq, Nat.reduceAdd, hav]; with_reducible exact rfl)); with_reducible (first | refine okk_some ?_ | (refine okk_ite ?_ ?_; (focus omega)) | (refine okk_ifn ?_ ?_; (focus omega)))))
    all_goals (simp only [go_sem, ↓reduceIte, Nat.reduceEqDiff, reduceCtorEq, Nat.reduceAdd]; refine hK0 _ ?_; clear hK0 K0)
    refine awp_seq_k fun K0 hK0 => ?_
    refine awp_region (Θ := Θ) (Γ := Γ) [0, 1, 7, 8, 9, 10] ΘOK ΓOK rfl ?_
    repeat' (first
      | (with_reducible refine arun_nil ?_)
      | ((with_reducible apply arun_any); (focus exact rfl); (focus (simp (disch := first | assumption | (with_reducible exact okL_limbs _) | omega) only [go_sem, ↓reduceIte, Nat.reduceEqDiff, reduceCtorEq, Nat.reduceAdd, hbv]; with_reducible exact rfl)); with_reducible (first | refine okk_some ?_ | (refine okk_ite ?_ ?_; (focus omega)) | (refine okk_ifn ?_ ?_; (focus omega)))))
    all_goals (simp only [go_sem, ↓reduceIte, Nat.reduceEqDiff, reduceCtorEq, Nat.reduceAdd]; refine hK0 _ ?_; clear hK0 K0)
    refine awp_seq_k fun K0 hK0 => ?_
    have rest : ∀ σ : St, agree [(0, .lst (ints .u32 (limbs a))), (1, .lst (ints .u32 (limbs b)))] σ.t → σ.h = hlook [] → K0 σ := by
      intro σ hag hh
      refine hK0 σ ?_
      refine awp_forget _ hag ?_
      rw [hh]
      clear hag hh hK0 K0
      have hba : bl a ≤ 32 * (limbs a).length := by
        have h1 := nv_lt hA
        rw [hav, B_pow] at h1
        exact bl_le h1
      have hbB : b < B ^ (limbs b).length := by
        have := nv_lt hC
        rwa [hbv] at this
      generalize hla : (limbs a).length = la at *
      generalize hlb : (limbs b).length = lb at *
      have hk3 := fun k => bl_le32 hla (k := k)
      generalize limbs a = Ca at *
      generalize limbs b = Cb at *
      refine awp_seq_k fun K0 hK0 => ?_
      refine awp_region (Θ := Θ) (Γ := Γ) [0, 1, 11] ΘOK ΓOK rfl ?_
      repeat' (first
        | (with_reducible refine arun_nil ?_)
        | ((with_reducible apply arun_any); (focus exact rfl); (focus (simp (disch := first | assumption | (with_reducible exact okL_limbs _) | omega) only [go_sem, ↓reduceIte, Nat.reduceEqDiff, reduceCtorEq, Nat.reduceAdd, hla]; with_reducible exact rfl)); with_reducible (first | refine okk_some ?_ | (refine okk_ite ?_ ?_; (focus omega)) | (refine okk_ifn ?_ ?_; (focus omega)))))
      all_goals (simp only [go_sem, ↓reduceIte, Nat.reduceEqDiff, reduceCtorEq, Nat.reduceAdd]; refine hK0 _ ?_; clear hK0 K0)
      refine awp_seq_k fun K0 hK0 => ?_
      refine awp_region (Θ := Θ) (Γ := Γ) [0, 1, 11, 12] ΘOK ΓOK rfl ?_
      repeat' (first
        | (with_reducible refine arun_nil ?_)
        | ((with_reducible apply arun_any); (focus exact rfl); (focus (simp (disch := first | assumption | (with_reducible exact okL_limbs _) | omega) only [go_sem, ↓reduceIte, Nat.reduceEqDiff, reduceCtorEq, Nat.reduceAdd, hlb]; with_reducible exact rfl)); with_reducible (first | refine okk_some ?_ | (refine okk_ite ?_ ?_; (focus omega)) | (refine okk_ifn ?_ ?_; (focus omega)))))
      all_goals (simp only [go_sem, ↓reduceIte, Nat.reduceEqDiff, reduceCtorEq, Nat.reduceAdd]; refine hK0 _ ?_; clear hK0 K0)
      rw [show ((lb : Int) + 1).toNat = lb + 1 by omega]
      refine awp_seq_k fun K0 hK0 => ?_
      refine awp_seq_k fun K1 hK1 => ?_
      refine awp_region (Θ := Θ) (Γ := Γ) [0, 1, 11, 12, 13] ΘOK ΓOK rfl ?_
      repeat' (first
        | (with_reducible refine arun_nil ?_)
        | ((with_reducible apply arun_any); (focus exact rfl); (focus (simp (disch := first | assumption | (with_reducible exact okL_limbs _) | omega) only [go_sem, ↓reduceIte, Nat.reduceEqDiff, reduceCtorEq, Nat.reduceAdd, hav]; with_reducible exact rfl)); with_reducible (first | refine okk_some ?_ | (refine okk_ite ?_ ?_; (focus omega)) | (refine okk_ifn ?_ ?_; (focus omega)))))
      all_goals (simp only [go_sem, ↓reduceIte, Nat.reduceEqDiff, reduceCtorEq, Nat.reduceAdd]; refine hK1 _ ?_; clear hK1 K1)
      refine awp_block ?_   -- 0
      have hbl := bl_lt a
      have hdiv0 : a / 2 ^ bl a = 0 := Nat.div_eq_of_lt hbl
      refine awp_loop_st (ι := Nat × List Int × List Int) (fun p => [(0, .lst (ints .u32 Ca)), (1, .lst (ints .u32 Cb)), (11, .own 45), (12, .own 49), (13, vInt .i64 ((p.1 : Int) - 1))]) (fun p => [(45, ⟨48, 1, ints .u32 p.2.1, none⟩), (49, ⟨48, 1, ints .u32 p.2.2, none⟩)]) (fun p => p.1)
        (fun p => p.1 ≤ bl a ∧ okL p.2.1 ∧ p.2.1.length = la ∧ okL p.2.2 ∧ p.2.2.length = lb + 1 ∧ nv p.2.1 = a / 2 ^ p.1 / b * 2 ^ p.1 ∧ nv p.2.2 = a / 2 ^ p.1 % b) (bl a, List.replicate la 0, List.replicate (lb + 1) 0)
        ⟨Nat.le_refl _, okL_replicate _, by simp, okL_replicate _, by simp, by simp [nv_replicate, hdiv0], by simp [nv_replicate, hdiv0]⟩ (by simp [agree_cons, agree_nil, slook_cons, vInt]) (by simp [ints]) ?_
      clear hbl hdiv0
      rintro ⟨p, Q, R⟩ ⟨h1, h2, h3, h4, h5, h6, h7⟩
      simp only at h1 h2 h3 h4 h5 h6 h7 ⊢
      refine awp_seq_k fun K1 hK1 => ?_
      refine awp_seq_k fun K2 hK2 => ?_
      refine awp_region (Θ := Θ) (Γ := Γ) [0, 1, 11, 12, 13, 54] ΘOK ΓOK rfl ?_
      repeat' (first
        | (with_reducible refine arun_nil ?_)
        | ((with_reducible apply arun_any); (focus exact rfl); (focus (simp (disch := first | assumption | (with_reducible exact okL_limbs _) | omega) only [go_sem, ↓reduceIte, Nat.reduceEqDiff, reduceCtorEq, Nat.reduceAdd]; with_reducible exact rfl)); with_reducible (first | refine okk_some ?_ | (refine okk_ite ?_ ?_; (focus omega)) | (refine okk_ifn ?_ ?_; (focus omega)))))
      all_goals (simp only [go_sem, ↓reduceIte, Nat.reduceEqDiff, reduceCtorEq, Nat.reduceAdd]; refine hK2 _ ?_; clear hK2 K2)
      apply awp_cond
      (focus (simp only [go_sem, ↓reduceIte, Nat.reduceEqDiff, reduceCtorEq, Nat.reduceAdd]; exact rfl))
      all_goals intro hc
      ·
        obtain ⟨k, rfl⟩ : ∃ k, p = k + 1 := ⟨p - 1, by simp at hc; omega⟩
        clear hc
        refine awp_skip ?_
        refine hK1 _ ?_; clear hK1 K1
        rw [show ((k + 1 : Nat) : Int) - 1 = (k : Int) by omega]
        have hk32 := hk3 k (by omega)
        have hbit : a / 2 ^ k % 2 < 2 := Nat.mod_lt _ (by decide)
        have hhalf := half_step a k
        obtain ⟨st1, st2⟩ := rdm_step (A := a / 2 ^ (k + 1)) (b := b) (bit := a / 2 ^ k % 2) hbp hbit
        rw [← hhalf] at st1 st2
        rw [← h7] at st1 st2
        obtain ⟨sb1, sb2⟩ := setbit h2 (by omega) h6
        have hQl := h3
        have hRb : nv R < b := by rw [h7]; exact Nat.mod_lt _ hbp
        generalize hbe : a / 2 ^ k % 2 = bit at *
        have hWl : W (lb + 1) = ((B ^ lb : Nat) : Int) * 4294967296 := by rw [W_succ, W_nat]
        have hr1 : (2 * iv R + (bit : Int)) % W R.length = ((2 * nv R + bit : Nat) : Int) := by
          rw [h5, hWl]
          unfold iv
          rw [Int.emod_eq_of_lt (by omega) (by omega)]
          omega
        have hr1b : 2 * nv R + bit < B ^ (lb + 1) := by
          rw [Nat.pow_succ]; unfold B at hbB ⊢; omega
        refine awp_seq_k fun K1 hK1 => ?_
        have fin : ∀ (Q' R' : List Int) (σ : St), okL Q' → Q'.length = la → okL R' → R'.length = lb + 1 → nv Q' = a / 2 ^ k / b * 2 ^ k → nv R' = a / 2 ^ k % b → agree [(0, .lst (ints .u32 Ca)), (1, .lst (ints .u32 Cb)), (11, .own 45), (12, .own 49), (13, vInt .i64 (k : Int))] σ.t →
            σ.h = hlook [(45, ⟨48, 1, ints .u32 Q', none⟩), (49, ⟨48, 1, ints .u32 R', none⟩)] → K1 σ := by
          intro Q' R' σ y1 y2 y3 y4 y5 y6 hag hh
          refine hK1 σ ?_
          refine awp_forget _ hag ?_
          rw [hh]
          refine awp_region (Θ := Θ) (Γ := Γ) [0, 1, 11, 12, 13] ΘOK ΓOK rfl ?_
          repeat' (first
            | (with_reducible refine arun_nil ?_)
            | ((with_reducible apply arun_any); (focus exact rfl); (focus (simp (disch := first | assumption | (with_reducible exact okL_limbs _) | omega) only [go_sem, ↓reduceIte, Nat.reduceEqDiff, reduceCtorEq, Nat.reduceAdd]; with_reducible exact rfl)); with_reducible (first | refine okk_some ?_ | (refine okk_ite ?_ ?_; (focus omega)) | (refine okk_ifn ?_ ?_; (focus omega)))))
          all_goals (simp only [go_sem, ↓reduceIte, Nat.reduceEqDiff, reduceCtorEq, Nat.reduceAdd])
          refine ⟨(k, Q', R'), ⟨by simp only; omega, y1, y2, y3, y4, y5, y6⟩, ?_, rfl, by simp only; omega⟩
          ·
            first | (simp [agree_cons, agree_nil, slook_cons, vInt]; done) | (simp [agree_cons, agree_nil, slook_cons, vInt]; omega) | (simp [agree_cons, agree_nil, slook_cons, vInt]; grind)
        refine awp_block ?_   -- 1
        refine awp_seq_k fun K2 hK2 => ?_
        refine awp_region (Θ := Θ) (Γ := Γ) [0, 1, 11, 12, 13] ΘOK ΓOK rfl ?_
        repeat' (first
          | (with_reducible refine arun_nil ?_)
          | ((with_reducible apply arun_any); (focus exact rfl); (focus (simp (disch := first | assumption | (with_reducible exact okL_limbs _) | omega) only [go_sem, ↓reduceIte, Nat.reduceEqDiff, reduceCtorEq, Nat.reduceAdd, hav, hbe, hr1]; with_reducible exact rfl)); with_reducible (first | refine okk_some ?_ | (refine okk_ite ?_ ?_; (focus omega)) | (refine okk_ifn ?_ ?_; (focus omega)))))
        all_goals (simp only [go_sem, ↓reduceIte, Nat.reduceEqDiff, reduceCtorEq, Nat.reduceAdd]; refine hK2 _ ?_; clear hK2 K2)
        rw [h5]
        have hS := okL_lim (lb + 1) (2 * nv R + bit)
        have hSl := lim_length (lb + 1) (2 * nv R + bit)
        have hSv := nv_lim _ _ hr1b
        generalize lim (lb + 1) (2 * nv R + bit) = S at *
        refine awp_seq_k fun K2 hK2 => ?_
        refine awp_region (Θ := Θ) (Γ := Γ) [0, 1, 11, 12, 13, 65] ΘOK ΓOK rfl ?_
        repeat' (first
          | (with_reducible refine arun_nil ?_)
          | ((with_reducible apply arun_any); (focus exact rfl); (focus (simp (disch := first | assumption | (with_reducible exact okL_limbs _) | omega) only [go_sem, ↓reduceIte, Nat.reduceEqDiff, reduceCtorEq, Nat.reduceAdd, hSv, hbv]; with_reducible exact rfl)); with_reducible (first | refine okk_some ?_ | (refine okk_ite ?_ ?_; (focus omega)) | (refine okk_ifn ?_ ?_; (focus omega)))))
        all_goals (simp only [go_sem, ↓reduceIte, Nat.reduceEqDiff, reduceCtorEq, Nat.reduceAdd]; refine hK2 _ ?_; clear hK2 K2)
        apply awp_cond
        (focus (simp only [go_sem, ↓reduceIte, Nat.reduceEqDiff, reduceCtorEq, Nat.reduceAdd]; exact rfl))
        all_goals intro hc
        ·
          have hge : b ≤ 2 * nv R + bit := by
            have : cmpN (2 * nv R + bit) b ≥ 0 := by simpa using hc
            unfold cmpN at this
            split at this <;> omega
          obtain ⟨s1, s2⟩ := st1 hge
          clear hc
          have hr2 : (iv S - iv Cb) % W S.length = ((2 * nv R + bit - b : Nat) : Int) := by
            rw [hSl, hWl]
            unfold iv
            rw [hSv, hbv, Int.emod_eq_of_lt (by omega) (by omega)]
            omega
          have hr2b : 2 * nv R + bit - b < B ^ (lb + 1) := Nat.lt_of_le_of_lt (Nat.sub_le _ _) hr1b
          clear hr1 hWl hbB hr1b hhalf st1 st2 hRb hge
          generalize hxe : 2 * nv R + bit - b = x2 at *
          refine awp_seq_k fun K2 hK2 => ?_
          refine awp_region (Θ := Θ) (Γ := Γ) [0, 1, 11, 12, 13] ΘOK ΓOK rfl ?_
          iterate 2 (with_reducible apply arun_any; (focus exact rfl); (focus (simp only [go_sem, ↓reduceIte, Nat.reduceEqDiff, reduceCtorEq, Nat.reduceAdd]; with_reducible exact rfl)); refine okk_some ?_)
          refine arun_step rfl (take_op (by simp only [go_sem, ↓reduceIte, Nat.reduceEqDiff, reduceCtorEq, Nat.reduceAdd]) (by simp only [go_sem, ↓reduceIte, Nat.reduceEqDiff, reduceCtorEq, Nat.reduceAdd]) hS hC (by omega) (by omega) hr2) ?_
          repeat' (first
            | (with_reducible refine arun_nil ?_)
            | ((with_reducible apply arun_any); (focus exact rfl); (focus (simp (disch := first | assumption | (with_reducible exact okL_limbs _) | omega) only [go_sem, ↓reduceIte, Nat.reduceEqDiff, reduceCtorEq, Nat.reduceAdd]; with_reducible exact rfl)); with_reducible (first | refine okk_some ?_ | (refine okk_ite ?_ ?_; (focus omega)) | (refine okk_ifn ?_ ?_; (focus omega)))))
          all_goals (simp only [go_sem, ↓reduceIte, Nat.reduceEqDiff, reduceCtorEq, Nat.reduceAdd]; refine hK2 _ ?_; clear hK2 K2)
          rw [hSl]
          have f1 : ((k : Int) / 32).toNat = k / 32 := by omega
          have f2 : ((k : Int) % 32).toNat = k % 32 := by omega
          have f3 : min (k % 32) 32 = k % 32 := by omega
          have f4 : (1 * 2 ^ (k % 32)) % 4294967296 = (2 : Int) ^ (k % 32) := by
            have := pow_le31 (n := k % 32) (by omega)
            have := pow_pos2 (k % 32)
            omega
          have f5 : (Q.getD (k / 32) 0 + 2 ^ (k % 32)) % 4294967296 = Q.getD (k / 32) 0 + 2 ^ (k % 32) := by omega
          refine awp_draw (Θ := Θ) (Γ := Γ) [0, 1, 11, 12, 13] ΘOK ΓOK mixed rfl (by decide +kernel) ?_
          repeat' (first
            | (with_reducible refine arunD_nil ?_)
            | ((with_reducible apply arunD_step); (focus (simp (disch := first | assumption | (with_reducible exact okL_limbs _) | omega) only [go_sem, ↓reduceIte, Nat.reduceEqDiff, reduceCtorEq, Nat.reduceAdd, f1, f2, f3, f4, f5]; with_reducible exact rfl)))
            | ((with_reducible apply arunD_if); (focus (simp (disch := first | assumption | (with_reducible exact okL_limbs _) | omega) only [go_sem, ↓reduceIte, Nat.reduceEqDiff, reduceCtorEq, Nat.reduceAdd, f1, f2, f3, f4, f5]; with_reducible exact rfl)); (focus omega))
            | ((with_reducible apply arunD_ifn); (focus (simp (disch := first | assumption | (with_reducible exact okL_limbs _) | omega) only [go_sem, ↓reduceIte, Nat.reduceEqDiff, reduceCtorEq, Nat.reduceAdd, f1, f2, f3, f4, f5]; with_reducible exact rfl)); (focus omega)))
          all_goals (simp only [go_sem, ↓reduceIte, Nat.reduceEqDiff, reduceCtorEq, Nat.reduceAdd])
          refine fin (Q.set (k / 32) (Q.getD (k / 32) 0 + 2 ^ (k % 32))) (lim (lb + 1) x2) _ (okL_set h2 _ sb1) (by simpa using h3) (okL_lim _ _) (lim_length _ _) ?_ ?_ ?_ rfl
          ·
            rw [sb2, s1, h6, Nat.add_mul, Nat.one_mul, Nat.pow_succ, Nat.mul_assoc 2, Nat.mul_comm 2, Nat.mul_assoc]
          ·
            rw [nv_lim _ _ hr2b, s2]
          ·
            first | (simp [agree_cons, agree_nil, slook_cons, vInt]; done) | (simp [agree_cons, agree_nil, slook_cons, vInt]; omega) | (simp [agree_cons, agree_nil, slook_cons, vInt]; grind)
        ·
          have hlt : 2 * nv R + bit < b := by
            have : ¬ cmpN (2 * nv R + bit) b ≥ 0 := by simpa using hc
            unfold cmpN at this
            split at this <;> omega
          obtain ⟨s1, s2⟩ := st2 hlt
          refine awp_skip ?_
          refine fin Q S _ h2 h3 hS hSl ?_ (by rw [hSv, s2]) ?_ rfl
          ·
            rw [s1, h6, Nat.pow_succ, Nat.mul_assoc 2, Nat.mul_comm 2, Nat.mul_assoc]
          ·
            first | (simp [agree_cons, agree_nil, slook_cons, vInt]; done) | (simp [agree_cons, agree_nil, slook_cons, vInt]; omega) | (simp [agree_cons, agree_nil, slook_cons, vInt]; grind)
      ·
        have hp : p = 0 := by simp at hc; omega
        subst hp
        simp only [Nat.pow_zero, Nat.div_one, Nat.mul_one] at h6 h7
        refine awp_exit ?_   -- exit 0
        simp only [Nat.reduceEqDiff, ↓reduceIte]
        refine hK0 _ ?_; clear hK0 K0 hK1 K1
        refine awp_seq_k fun K0 hK0 => ?_
        refine awp_region (Θ := Θ) (Γ := Γ) [4, 5, 6] ΘOK ΓOK rfl ?_
        repeat' (first
          | (with_reducible refine arun_nil ?_)
          | ((with_reducible apply arun_any); (focus exact rfl); (focus (simp (disch := first | assumption | (with_reducible exact okL_limbs _) | omega) only [go_sem, ↓reduceIte, Nat.reduceEqDiff, reduceCtorEq, Nat.reduceAdd]; with_reducible exact rfl)); with_reducible (first | refine okk_some ?_ | (refine okk_ite ?_ ?_; (focus omega)) | (refine okk_ifn ?_ ?_; (focus omega)))))
        all_goals (simp only [go_sem, ↓reduceIte, Nat.reduceEqDiff, reduceCtorEq, Nat.reduceAdd]; refine hK0 _ ?_; clear hK0 K0)
        refine awp_ret ?_
        simp only [go_sem, ↓reduceIte, Nat.reduceEqDiff, reduceCtorEq, Nat.reduceAdd, Res, rDM, h0, hd0, h6, h7]
    by_cases hsa : bl a ≤ 63
    ·
      have hda : decide (bl a ≤ 63) = true := by simpa using hsa
      by_cases hsb : bl b ≤ 63
      ·
        have hdb : decide (bl b ≤ 63) = true := by simpa using hsb
        have hpa := bl_lt_pow hsa
        have hpb := bl_lt_pow hsb
        refine awp_seq_k fun K1 hK1 => ?_
        refine awp_region (Θ := Θ) (Γ := Γ) [0, 1, 7, 9, 34] ΘOK ΓOK rfl ?_
        repeat' (first
          | (with_reducible refine arun_nil ?_)
          | ((with_reducible apply arun_any); (focus exact rfl); (focus (simp (disch := first | assumption | (with_reducible exact okL_limbs _) | omega) only [go_sem, ↓reduceIte, Nat.reduceEqDiff, reduceCtorEq, Nat.reduceAdd, hda, hdb, hsa, hsb]; with_reducible exact rfl)); with_reducible (first | refine okk_some ?_ | (refine okk_ite ?_ ?_; (focus omega)) | (refine okk_ifn ?_ ?_; (focus omega))))
          | ((with_reducible apply arun_gyes); (focus exact rfl); (focus (simp only [go_sem, ↓reduceIte, Nat.reduceEqDiff, reduceCtorEq, Nat.reduceAdd, hda, hdb, hsa, hsb]; with_reducible exact rfl)); (focus first | assumption | exact rfl))
          | ((with_reducible apply arun_gundef); (focus exact rfl); (focus (simp only [go_sem, ↓reduceIte, Nat.reduceEqDiff, reduceCtorEq, Nat.reduceAdd, hda, hdb, hsa, hsb]; done)))
          | ((with_reducible apply arun_gno); (focus exact rfl); (focus (simp only [go_sem, ↓reduceIte, Nat.reduceEqDiff, reduceCtorEq, Nat.reduceAdd, hda, hdb, hsa, hsb]; with_reducible exact rfl)); (focus first | assumption | exact rfl))
          | ((with_reducible apply arun_guard); (focus exact rfl); (focus (simp only [go_sem, ↓reduceIte, Nat.reduceEqDiff, reduceCtorEq, Nat.reduceAdd, hda, hdb, hsa, hsb]; with_reducible exact rfl)); (focus intro hb); rotate_left; (focus intro hb); rotate_right))
        all_goals (simp only [go_sem, ↓reduceIte, Nat.reduceEqDiff, reduceCtorEq, Nat.reduceAdd]; refine hK1 _ ?_; clear hK1 K1)
        apply awp_cond
        (focus (simp only [go_sem, ↓reduceIte, Nat.reduceEqDiff, reduceCtorEq, Nat.reduceAdd]; exact rfl))
        all_goals intro hc
        ·
          have eq : (a : Int) / (b : Int) = ((a / b : Nat) : Int) := by omega
          have em : (a : Int) % (b : Int) = ((a % b : Nat) : Int) := by omega
          have hql : a / b ≤ a := Nat.div_le_self a b
          have hml : a % b ≤ a := Nat.mod_le a b
          generalize hqe : a / b = q at *
          generalize hme : a % b = m at *
          refine awp_seq_k fun K1 hK1 => ?_
          refine awp_draw (Θ := Θ) (Γ := Γ) [4, 5, 6] ΘOK ΓOK mixed rfl (by decide +kernel) ?_
          repeat' (first
            | (with_reducible refine arunD_nil ?_)
            | ((with_reducible apply arunD_step); (focus (simp (disch := first | assumption | (with_reducible exact okL_limbs _) | omega) only [go_sem, ↓reduceIte, Nat.reduceEqDiff, reduceCtorEq, Nat.reduceAdd, eq, em]; with_reducible exact rfl)))
            | ((with_reducible apply arunD_if); (focus (simp (disch := first | assumption | (with_reducible exact okL_limbs _) | omega) only [go_sem, ↓reduceIte, Nat.reduceEqDiff, reduceCtorEq, Nat.reduceAdd, eq, em]; with_reducible exact rfl)); (focus omega))
            | ((with_reducible apply arunD_ifn); (focus (simp (disch := first | assumption | (with_reducible exact okL_limbs _) | omega) only [go_sem, ↓reduceIte, Nat.reduceEqDiff, reduceCtorEq, Nat.reduceAdd, eq, em]; with_reducible exact rfl)); (focus omega)))
          all_goals (simp only [go_sem, ↓reduceIte, Nat.reduceEqDiff, reduceCtorEq, Nat.reduceAdd])
          refine hK1 _ ?_; clear hK1 K1
          refine awp_ret ?_
          simp only [go_sem, ↓reduceIte, Nat.reduceEqDiff, reduceCtorEq, Nat.reduceAdd, Res, rDM, h0, hd0, hqe, hme]
        · cases hc
      ·
        have hdb : decide (bl b ≤ 63) = false := by simpa using hsb
        refine awp_seq_k fun K1 hK1 => ?_
        refine awp_region (Θ := Θ) (Γ := Γ) [0, 1, 7, 9, 34] ΘOK ΓOK rfl ?_
        repeat' (first
          | (with_reducible refine arun_nil ?_)
          | ((with_reducible apply arun_any); (focus exact rfl); (focus (simp (disch := first | assumption | (with_reducible exact okL_limbs _) | omega) only [go_sem, ↓reduceIte, Nat.reduceEqDiff, reduceCtorEq, Nat.reduceAdd, hda, hdb, hsa, hsb]; with_reducible exact rfl)); with_reducible (first | refine okk_some ?_ | (refine okk_ite ?_ ?_; (focus omega)) | (refine okk_ifn ?_ ?_; (focus omega))))
          | ((with_reducible apply arun_gyes); (focus exact rfl); (focus (simp only [go_sem, ↓reduceIte, Nat.reduceEqDiff, reduceCtorEq, Nat.reduceAdd, hda, hdb, hsa, hsb]; with_reducible exact rfl)); (focus first | assumption | exact rfl))
          | ((with_reducible apply arun_gundef); (focus exact rfl); (focus (simp only [go_sem, ↓reduceIte, Nat.reduceEqDiff, reduceCtorEq, Nat.reduceAdd, hda, hdb, hsa, hsb]; done)))
          | ((with_reducible apply arun_gno); (focus exact rfl); (focus (simp only [go_sem, ↓reduceIte, Nat.reduceEqDiff, reduceCtorEq, Nat.reduceAdd, hda, hdb, hsa, hsb]; with_reducible exact rfl)); (focus first | assumption | exact rfl))
          | ((with_reducible apply arun_guard); (focus exact rfl); (focus (simp only [go_sem, ↓reduceIte, Nat.reduceEqDiff, reduceCtorEq, Nat.reduceAdd, hda, hdb, hsa, hsb]; with_reducible exact rfl)); (focus intro hb); rotate_left; (focus intro hb); rotate_right))
        all_goals (simp only [go_sem, ↓reduceIte, Nat.reduceEqDiff, reduceCtorEq, Nat.reduceAdd]; refine hK1 _ ?_; clear hK1 K1)
        apply awp_cond
        (focus (simp only [go_sem, ↓reduceIte, Nat.reduceEqDiff, reduceCtorEq, Nat.reduceAdd]; exact rfl))
        all_goals intro hc
        · cases hc
        ·
          refine awp_skip ?_
          refine rest _ ?_ rfl
          first | (simp [agree_cons, agree_nil, slook_cons, vInt]; done) | (simp [agree_cons, agree_nil, slook_cons, vInt]; omega) | (simp [agree_cons, agree_nil, slook_cons, vInt]; grind)
    ·
      have hda : decide (bl a ≤ 63) = false := by simpa using hsa
      refine awp_seq_k fun K1 hK1 => ?_
      refine awp_region (Θ := Θ) (Γ := Γ) [0, 1, 7, 9, 34] ΘOK ΓOK rfl ?_
      repeat' (first
        | (with_reducible refine arun_nil ?_)
        | ((with_reducible apply arun_any); (focus exact rfl); (focus (simp (disch := first | assumption | (with_reducible exact okL_limbs _) | omega) only [go_sem, ↓reduceIte, Nat.reduceEqDiff, reduceCtorEq, Nat.reduceAdd, hda, hsa]; with_reducible exact rfl)); with_reducible (first | refine okk_some ?_ | (refine okk_ite ?_ ?_; (focus omega)) | (refine okk_ifn ?_ ?_; (focus omega))))
        | ((with_reducible apply arun_gyes); (focus exact rfl); (focus (simp only [go_sem, ↓reduceIte, Nat.reduceEqDiff, reduceCtorEq, Nat.reduceAdd, hda, hsa]; with_reducible exact rfl)); (focus first | assumption | exact rfl))
        | ((with_reducible apply arun_gundef); (focus exact rfl); (focus (simp only [go_sem, ↓reduceIte, Nat.reduceEqDiff, reduceCtorEq, Nat.reduceAdd, hda, hsa]; done)))
        | ((with_reducible apply arun_gno); (focus exact rfl); (focus (simp only [go_sem, ↓reduceIte, Nat.reduceEqDiff, reduceCtorEq, Nat.reduceAdd, hda, hsa]; with_reducible exact rfl)); (focus first | assumption | exact rfl))
        | ((with_reducible apply arun_guard); (focus exact rfl); (focus (simp only [go_sem, ↓reduceIte, Nat.reduceEqDiff, reduceCtorEq, Nat.reduceAdd, hda, hsa]; with_reducible exact rfl)); (focus intro hb); rotate_left; (focus intro hb); rotate_right))
      all_goals (simp only [go_sem, ↓reduceIte, Nat.reduceEqDiff, reduceCtorEq, Nat.reduceAdd]; refine hK1 _ ?_; clear hK1 K1)
      apply awp_cond
      (focus (simp only [go_sem, ↓reduceIte, Nat.reduceEqDiff, reduceCtorEq, Nat.reduceAdd]; exact rfl))
      all_goals intro hc
      · cases hc
      ·
        refine awp_skip ?_
        refine rest _ ?_ rfl
        first | (simp [agree_cons, agree_nil, slook_cons, vInt]; done) | (simp [agree_cons, agree_nil, slook_cons, vInt]; omega) | (simp [agree_cons, agree_nil, slook_cons, vInt]; grind)
end RDivMod
end Go.Proofs

namespace Go.Proofs
open Go.Abs Go.NatMath
set_option linter.unusedVariables false
set_option linter.unusedSimpArgs false

theorem rDM_zero (a : Nat) : rDM a 0 = .tup [.lst (ints .u32 []), .lst (ints .u32 []), .val (.bool false)] := by simp [rDM, U, limbs_zero]
theorem rDM_pos {a b : Nat} (h : b ≠ 0) : rDM a b = .tup [.lst (ints .u32 (limbs (a / b))), .lst (ints .u32 (limbs (a % b))), .val (.bool true)] := by simp [rDM, U, h]
theorem limbs_length_take {L : List Int} (h : okL L) (n : Nat) : (limbs (nv (L.take n))).length ≤ n := Nat.le_trans (limbs_length_nv (okL_take n h)) (by simp; omega)

/-! ### NatDivides -/
namespace NatDivides
def Γ : FuncId → Abs.Spec
  | 18 => .pure spCut
  | 19 => .pure spDivMod
  | 20 => .pure spDivMod
  | 21 => .pure spAwake
  | 22 => .pure spSame
  | _ => .none
theorem ΓOK : ∀ f, SpecOK Try.prog f (Γ f) := by
  intro f
  unfold Γ
  split
  · exact ⟨⟨_, Try.func18, by decide +kernel, rfl⟩, Cut.ok⟩
  · exact ⟨⟨_, Try.func19, by decide +kernel, rfl⟩, DivMod.ok⟩
  · exact ⟨⟨_, Try.func20, by decide +kernel, rfl⟩, RDivMod.ok⟩
  · exact ⟨⟨_, Try.func21, by decide +kernel, rfl⟩, Awake.ok⟩
  · exact ⟨⟨_, Try.func22, by decide +kernel, rfl⟩, Same22.ok⟩
  · trivial
attribute [local go_sem] Γ
theorem ok : PureOK Try.prog 3 spTrue2 := by
  refine pure_of_awp (n := 45) [4] Try.func3 rfl rfl rfl ?_
  intro M0 w0 args r h
  obtain ⟨L, M, rfl, hL, hLl, hM, hMl, hr⟩ := sp2_some h
  cases hr
  clear h
  refine ⟨by simp, ?_⟩
  have e60 : (60 : Int).toNat = 60 := rfl
  have hA := okL_take 60 hL
  have hC := okL_take 60 hM
  have hAl : (L.take 60).length ≤ 60 := by simp; omega
  have hCl : (M.take 60).length ≤ 60 := by simp; omega
  refine awp_seq_k fun K0 hK0 => ?_
  refine awp_region (Θ := Θ) (Γ := Γ) [0, 1] ΘOK ΓOK rfl ?_
  repeat' (first
    | (with_reducible refine arun_nil ?_)
    | ((with_reducible apply arun_any); (focus exact rfl); (focus (simp (disch := first | assumption | (with_reducible exact okL_limbs _) | omega) only [go_sem, ↓reduceIte, Nat.reduceEqDiff, reduceCtorEq, Nat.reduceAdd]; with_reducible exact rfl)); with_reducible (first | refine okk_some ?_ | (refine okk_ite ?_ ?_; (focus omega)) | (refine okk_ifn ?_ ?_; (focus omega)))))
  all_goals (simp only [go_sem, ↓reduceIte, Nat.reduceEqDiff, reduceCtorEq, Nat.reduceAdd]; refine hK0 _ ?_; clear hK0 K0)
  refine awp_seq_k fun K0 hK0 => ?_
  refine awp_region (Θ := Θ) (Γ := Γ) [0, 1] ΘOK ΓOK rfl ?_
  repeat' (first
    | (with_reducible refine arun_nil ?_)
    | ((with_reducible apply arun_any); (focus exact rfl); (focus (simp (disch := first | assumption | (with_reducible exact okL_limbs _) | omega) only [go_sem, ↓reduceIte, Nat.reduceEqDiff, reduceCtorEq, Nat.reduceAdd, e60]; with_reducible exact rfl)); with_reducible (first | refine okk_some ?_ | (refine okk_ite ?_ ?_; (focus omega)) | (refine okk_ifn ?_ ?_; (focus omega)))))
  all_goals (simp only [go_sem, ↓reduceIte, Nat.reduceEqDiff, reduceCtorEq, Nat.reduceAdd]; refine hK0 _ ?_; clear hK0 K0)
  generalize L.take 60 = A at *
  generalize M.take 60 = C at *
  have hn : okL [] := okL_nil
  have h0 : ([] : List Int).length ≤ 35184372088831 := by decide
  have hav := limbs_length_nv hA
  by_cases hb : nv C = 0
  ·
    rw [show (1 : Nat) = 1 from rfl]
    have hr := rDM_zero (nv A)
    refine awp_seq_k fun K0 hK0 => ?_
    refine awp_region (Θ := Θ) (Γ := Γ) [0, 1, 5, 6, 7] ΘOK ΓOK rfl ?_
    repeat' (first
      | (with_reducible refine arun_nil ?_)
      | ((with_reducible apply arun_any); (focus exact rfl); (focus (simp (disch := first | assumption | (with_reducible exact okL_limbs _) | omega) only [go_sem, ↓reduceIte, Nat.reduceEqDiff, reduceCtorEq, Nat.reduceAdd, hb, hr]; with_reducible exact rfl)); with_reducible (first | refine okk_some ?_ | (refine okk_ite ?_ ?_; (focus omega)) | (refine okk_ifn ?_ ?_; (focus omega)))))
    all_goals (simp only [go_sem, ↓reduceIte, Nat.reduceEqDiff, reduceCtorEq, Nat.reduceAdd]; refine hK0 _ ?_; clear hK0 K0)
    refine awp_seq_k fun K0 hK0 => ?_
    refine awp_region (Θ := Θ) (Γ := Γ) [5, 6, 7, 8, 9, 10] ΘOK ΓOK rfl ?_
    repeat' (first
      | (with_reducible refine arun_nil ?_)
      | ((with_reducible apply arun_any); (focus exact rfl); (focus (simp (disch := first | assumption | (with_reducible exact okL_limbs _) | omega) only [go_sem, ↓reduceIte, Nat.reduceEqDiff, reduceCtorEq, Nat.reduceAdd, hb, hr]; with_reducible exact rfl)); with_reducible (first | refine okk_some ?_ | (refine okk_ite ?_ ?_; (focus omega)) | (refine okk_ifn ?_ ?_; (focus omega)))))
    all_goals (simp only [go_sem, ↓reduceIte, Nat.reduceEqDiff, reduceCtorEq, Nat.reduceAdd]; refine hK0 _ ?_; clear hK0 K0)
    refine awp_seq_k fun K0 hK0 => ?_
    refine awp_region (Θ := Θ) (Γ := Γ) [4] ΘOK ΓOK rfl ?_
    repeat' (first
      | (with_reducible refine arun_nil ?_)
      | ((with_reducible apply arun_any); (focus exact rfl); (focus (simp (disch := first | assumption | (with_reducible exact okL_limbs _) | omega) only [go_sem, ↓reduceIte, Nat.reduceEqDiff, reduceCtorEq, Nat.reduceAdd]; with_reducible exact rfl)); with_reducible (first | refine okk_some ?_ | (refine okk_ite ?_ ?_; (focus omega)) | (refine okk_ifn ?_ ?_; (focus omega))))
      | ((with_reducible apply arun_gyes); (focus exact rfl); (focus (simp only [go_sem, ↓reduceIte, Nat.reduceEqDiff, reduceCtorEq, Nat.reduceAdd]; with_reducible exact rfl)); (focus first | assumption | exact rfl))
      | ((with_reducible apply arun_gundef); (focus exact rfl); (focus (simp only [go_sem, ↓reduceIte, Nat.reduceEqDiff, reduceCtorEq, Nat.reduceAdd]; done)))
      | ((with_reducible apply arun_gno); (focus exact rfl); (focus (simp only [go_sem, ↓reduceIte, Nat.reduceEqDiff, reduceCtorEq, Nat.reduceAdd]; with_reducible exact rfl)); (focus first | assumption | exact rfl))
      | ((with_reducible apply arun_guard); (focus exact rfl); (focus (simp only [go_sem, ↓reduceIte, Nat.reduceEqDiff, reduceCtorEq, Nat.reduceAdd]; with_reducible exact rfl)); (focus intro hb); rotate_left; (focus intro hb); rotate_right))
    all_goals (simp only [go_sem, ↓reduceIte, Nat.reduceEqDiff, reduceCtorEq, Nat.reduceAdd]; refine hK0 _ ?_; clear hK0 K0)
    refine awp_ret ?_
    simp only [go_sem, ↓reduceIte, Nat.reduceEqDiff, reduceCtorEq, Nat.reduceAdd, Res]
  ·
    have hr := rDM_pos (a := nv A) hb
    have hq := okL_limbs (nv A / nv C)
    have hm := okL_limbs (nv A % nv C)
    have hql := limbs_length_mono (Nat.div_le_self (nv A) (nv C))
    have hml := limbs_length_mono (Nat.mod_le (nv A) (nv C))
    refine awp_seq_k fun K0 hK0 => ?_
    refine awp_region (Θ := Θ) (Γ := Γ) [0, 1, 5, 6, 7] ΘOK ΓOK rfl ?_
    repeat' (first
      | (with_reducible refine arun_nil ?_)
      | ((with_reducible apply arun_any); (focus exact rfl); (focus (simp (disch := first | assumption | (with_reducible exact okL_limbs _) | omega) only [go_sem, ↓reduceIte, Nat.reduceEqDiff, reduceCtorEq, Nat.reduceAdd, hr]; with_reducible exact rfl)); with_reducible (first | refine okk_some ?_ | (refine okk_ite ?_ ?_; (focus omega)) | (refine okk_ifn ?_ ?_; (focus omega)))))
    all_goals (simp only [go_sem, ↓reduceIte, Nat.reduceEqDiff, reduceCtorEq, Nat.reduceAdd]; refine hK0 _ ?_; clear hK0 K0)
    refine awp_seq_k fun K0 hK0 => ?_
    refine awp_region (Θ := Θ) (Γ := Γ) [5, 6, 7, 8, 9, 10] ΘOK ΓOK rfl ?_
    repeat' (first
      | (with_reducible refine arun_nil ?_)
      | ((with_reducible apply arun_any); (focus exact rfl); (focus (simp (disch := first | assumption | (with_reducible exact okL_limbs _) | omega) only [go_sem, ↓reduceIte, Nat.reduceEqDiff, reduceCtorEq, Nat.reduceAdd, hr]; with_reducible exact rfl)); with_reducible (first | refine okk_some ?_ | (refine okk_ite ?_ ?_; (focus omega)) | (refine okk_ifn ?_ ?_; (focus omega)))))
    all_goals (simp only [go_sem, ↓reduceIte, Nat.reduceEqDiff, reduceCtorEq, Nat.reduceAdd]; refine hK0 _ ?_; clear hK0 K0)
    generalize limbs (nv A / nv C) = Q at *
    generalize limbs (nv A % nv C) = R at *
    refine awp_seq_k fun K0 hK0 => ?_
    refine awp_region (Θ := Θ) (Γ := Γ) [4] ΘOK ΓOK rfl ?_
    repeat' (first
      | (with_reducible refine arun_nil ?_)
      | ((with_reducible apply arun_any); (focus exact rfl); (focus (simp (disch := first | assumption | (with_reducible exact okL_limbs _) | omega) only [go_sem, ↓reduceIte, Nat.reduceEqDiff, reduceCtorEq, Nat.reduceAdd]; with_reducible exact rfl)); with_reducible (first | refine okk_some ?_ | (refine okk_ite ?_ ?_; (focus omega)) | (refine okk_ifn ?_ ?_; (focus omega))))
      | ((with_reducible apply arun_gyes); (focus exact rfl); (focus (simp only [go_sem, ↓reduceIte, Nat.reduceEqDiff, reduceCtorEq, Nat.reduceAdd]; with_reducible exact rfl)); (focus first | assumption | exact rfl))
      | ((with_reducible apply arun_gundef); (focus exact rfl); (focus (simp only [go_sem, ↓reduceIte, Nat.reduceEqDiff, reduceCtorEq, Nat.reduceAdd]; done)))
      | ((with_reducible apply arun_gno); (focus exact rfl); (focus (simp only [go_sem, ↓reduceIte, Nat.reduceEqDiff, reduceCtorEq, Nat.reduceAdd]; with_reducible exact rfl)); (focus first | assumption | exact rfl))
      | ((with_reducible apply arun_guard); (focus exact rfl); (focus (simp only [go_sem, ↓reduceIte, Nat.reduceEqDiff, reduceCtorEq, Nat.reduceAdd]; with_reducible exact rfl)); (focus intro hb); rotate_left; (focus intro hb); rotate_right))
    all_goals (simp only [go_sem, ↓reduceIte, Nat.reduceEqDiff, reduceCtorEq, Nat.reduceAdd]; refine hK0 _ ?_; clear hK0 K0)
    refine awp_ret ?_
    simp only [go_sem, ↓reduceIte, Nat.reduceEqDiff, reduceCtorEq, Nat.reduceAdd, Res]
end NatDivides

/-! ### NatRests -/
theorem bl_beq (n : Nat) : ((bl n : Int) == 0) = decide (n = 0) := by
  by_cases h : n = 0
  · subst h; rw [bl_zero]; rfl
  · have : bl n ≠ 0 := fun e => h (bl_eq_zero.1 e)
    simp [h]; omega
namespace NatRests
def Γ : FuncId → Abs.Spec
  | 18 => .pure spCut
  | 19 => .pure spDivMod
  | 21 => .pure spAwake
  | 22 => .pure spSame
  | 25 => .pure spPlain
  | 27 => .pure spCmp
  | 29 => .pure spBits
  | 33 => .pure spMul
  | 43 => .pure spAdd
  | _ => .none
theorem ΓOK : ∀ f, SpecOK Try.prog f (Γ f) := by
  intro f
  unfold Γ
  split
  · exact ⟨⟨_, Try.func18, by decide +kernel, rfl⟩, Cut.ok⟩
  · exact ⟨⟨_, Try.func19, by decide +kernel, rfl⟩, DivMod.ok⟩
  · exact ⟨⟨_, Try.func21, by decide +kernel, rfl⟩, Awake.ok⟩
  · exact ⟨⟨_, Try.func22, by decide +kernel, rfl⟩, Same22.ok⟩
  · exact ⟨⟨_, Try.func25, by decide +kernel, rfl⟩, Plain.ok⟩
  · exact ⟨⟨_, Try.func27, by decide +kernel, rfl⟩, Cmp.ok⟩
  · exact ⟨⟨_, Try.func29, by decide +kernel, rfl⟩, Bits.ok⟩
  · exact ⟨⟨_, Try.func33, by decide +kernel, rfl⟩, Mul.ok⟩
  · exact ⟨⟨_, Try.func43, by decide +kernel, rfl⟩, Add.ok⟩
  · trivial
attribute [local go_sem] Γ
theorem ok : PureOK Try.prog 16 spTrue2 := by
  refine pure_of_awp (n := 87) [4] Try.func16 rfl rfl rfl ?_
  intro M0 w0 args r h
  obtain ⟨L, M, rfl, hL, hLl, hM, hMl, hr⟩ := sp2_some h
  cases hr
  clear h
  refine ⟨by simp, ?_⟩
  have e100 : (100 : Int).toNat = 100 := rfl
  have hA := okL_take 100 hL
  have hC := okL_take 100 hM
  have hAl : (L.take 100).length ≤ 100 := by simp; omega
  have hCl : (M.take 100).length ≤ 100 := by simp; omega
  refine awp_seq_k fun K0 hK0 => ?_
  refine awp_region (Θ := Θ) (Γ := Γ) [0, 1] ΘOK ΓOK rfl ?_
  repeat' (first
    | (with_reducible refine arun_nil ?_)
    | ((with_reducible apply arun_any); (focus exact rfl); (focus (simp (disch := first | assumption | (with_reducible exact okL_limbs _) | omega) only [go_sem, ↓reduceIte, Nat.reduceEqDiff, reduceCtorEq, Nat.reduceAdd]; with_reducible exact rfl)); with_reducible (first | refine okk_some ?_ | (refine okk_ite ?_ ?_; (focus omega)) | (refine okk_ifn ?_ ?_; (focus omega)))))
  all_goals (simp only [go_sem, ↓reduceIte, Nat.reduceEqDiff, reduceCtorEq, Nat.reduceAdd]; refine hK0 _ ?_; clear hK0 K0)
  refine awp_seq_k fun K0 hK0 => ?_
  refine awp_region (Θ := Θ) (Γ := Γ) [0, 1, 5] ΘOK ΓOK rfl ?_
  repeat' (first
    | (with_reducible refine arun_nil ?_)
    | ((with_reducible apply arun_any); (focus exact rfl); (focus (simp (disch := first | assumption | (with_reducible exact okL_limbs _) | omega) only [go_sem, ↓reduceIte, Nat.reduceEqDiff, reduceCtorEq, Nat.reduceAdd]; with_reducible exact rfl)); with_reducible (first | refine okk_some ?_ | (refine okk_ite ?_ ?_; (focus omega)) | (refine okk_ifn ?_ ?_; (focus omega)))))
  all_goals (simp only [go_sem, ↓reduceIte, Nat.reduceEqDiff, reduceCtorEq, Nat.reduceAdd]; refine hK0 _ ?_; clear hK0 K0)
  refine awp_seq_k fun K0 hK0 => ?_
  refine awp_seq_k fun K1 hK1 => ?_
  refine awp_region (Θ := Θ) (Γ := Γ) [0, 1, 5, 14] ΘOK ΓOK rfl ?_
  repeat' (first
    | (with_reducible refine arun_nil ?_)
    | ((with_reducible apply arun_any); (focus exact rfl); (focus (simp (disch := first | assumption | (with_reducible exact okL_limbs _) | omega) only [go_sem, ↓reduceIte, Nat.reduceEqDiff, reduceCtorEq, Nat.reduceAdd]; with_reducible exact rfl)); with_reducible (first | refine okk_some ?_ | (refine okk_ite ?_ ?_; (focus omega)) | (refine okk_ifn ?_ ?_; (focus omega)))))
  all_goals (simp only [go_sem, ↓reduceIte, Nat.reduceEqDiff, reduceCtorEq, Nat.reduceAdd]; refine hK1 _ ?_; clear hK1 K1)
  apply awp_cond
  (focus (simp only [go_sem, ↓reduceIte, Nat.reduceEqDiff, reduceCtorEq, Nat.reduceAdd]; exact rfl))
  all_goals intro hc
  · cases hc
  ·
    refine awp_skip ?_
    refine hK0 _ ?_; clear hK0 K0
    refine awp_seq_k fun K0 hK0 => ?_
    refine awp_region (Θ := Θ) (Γ := Γ) [0, 1, 5] ΘOK ΓOK rfl ?_
    repeat' (first
      | (with_reducible refine arun_nil ?_)
      | ((with_reducible apply arun_any); (focus exact rfl); (focus (simp (disch := first | assumption | (with_reducible exact okL_limbs _) | omega) only [go_sem, ↓reduceIte, Nat.reduceEqDiff, reduceCtorEq, Nat.reduceAdd, e100]; with_reducible exact rfl)); with_reducible (first | refine okk_some ?_ | (refine okk_ite ?_ ?_; (focus omega)) | (refine okk_ifn ?_ ?_; (focus omega)))))
    all_goals (simp only [go_sem, ↓reduceIte, Nat.reduceEqDiff, reduceCtorEq, Nat.reduceAdd]; refine hK0 _ ?_; clear hK0 K0)
    generalize L.take 100 = A at *
    generalize M.take 100 = C at *
    by_cases hb : nv C = 0
    ·
      have hr := rDM_zero (nv A)
      refine awp_seq_k fun K0 hK0 => ?_
      refine awp_region (Θ := Θ) (Γ := Γ) [0, 1, 5, 6, 7, 8] ΘOK ΓOK rfl ?_
      repeat' (first
        | (with_reducible refine arun_nil ?_)
        | ((with_reducible apply arun_any); (focus exact rfl); (focus (simp (disch := first | assumption | (with_reducible exact okL_limbs _) | omega) only [go_sem, ↓reduceIte, Nat.reduceEqDiff, reduceCtorEq, Nat.reduceAdd, hb, hr]; with_reducible exact rfl)); with_reducible (first | refine okk_some ?_ | (refine okk_ite ?_ ?_; (focus omega)) | (refine okk_ifn ?_ ?_; (focus omega)))))
      all_goals (simp only [go_sem, ↓reduceIte, Nat.reduceEqDiff, reduceCtorEq, Nat.reduceAdd]; refine hK0 _ ?_; clear hK0 K0)
      refine awp_seq_k fun K0 hK0 => ?_
      refine awp_seq_k fun K1 hK1 => ?_
      refine awp_region (Θ := Θ) (Γ := Γ) [0, 1, 5, 6, 7, 8, 28] ΘOK ΓOK rfl ?_
      repeat' (first
        | (with_reducible refine arun_nil ?_)
        | ((with_reducible apply arun_any); (focus exact rfl); (focus (simp (disch := first | assumption | (with_reducible exact okL_limbs _) | omega) only [go_sem, ↓reduceIte, Nat.reduceEqDiff, reduceCtorEq, Nat.reduceAdd, hb, bl_beq, decide_true]; with_reducible exact rfl)); with_reducible (first | refine okk_some ?_ | (refine okk_ite ?_ ?_; (focus omega)) | (refine okk_ifn ?_ ?_; (focus omega)))))
      all_goals (simp only [go_sem, ↓reduceIte, Nat.reduceEqDiff, reduceCtorEq, Nat.reduceAdd]; refine hK1 _ ?_; clear hK1 K1)
      apply awp_cond
      (focus (simp only [go_sem, ↓reduceIte, Nat.reduceEqDiff, reduceCtorEq, Nat.reduceAdd]; exact rfl))
      all_goals intro hc
      ·
        have e00 : (((([] : List Int).length : Nat) : Int) == 0) = true := rfl
        refine awp_seq_k fun K1 hK1 => ?_
        refine awp_region (Θ := Θ) (Γ := Γ) [4] ΘOK ΓOK rfl ?_
        repeat' (first
          | (with_reducible refine arun_nil ?_)
          | ((with_reducible apply arun_any); (focus exact rfl); (focus (simp (disch := first | assumption | (with_reducible exact okL_limbs _) | omega) only [go_sem, ↓reduceIte, Nat.reduceEqDiff, reduceCtorEq, Nat.reduceAdd, e00, Bool.not_false]; with_reducible exact rfl)); with_reducible (first | refine okk_some ?_ | (refine okk_ite ?_ ?_; (focus omega)) | (refine okk_ifn ?_ ?_; (focus omega))))
          | ((with_reducible apply arun_gyes); (focus exact rfl); (focus (simp only [go_sem, ↓reduceIte, Nat.reduceEqDiff, reduceCtorEq, Nat.reduceAdd, e00, Bool.not_false]; with_reducible exact rfl)); (focus first | assumption | exact rfl))
          | ((with_reducible apply arun_gundef); (focus exact rfl); (focus (simp only [go_sem, ↓reduceIte, Nat.reduceEqDiff, reduceCtorEq, Nat.reduceAdd, e00, Bool.not_false]; done)))
          | ((with_reducible apply arun_gno); (focus exact rfl); (focus (simp only [go_sem, ↓reduceIte, Nat.reduceEqDiff, reduceCtorEq, Nat.reduceAdd, e00, Bool.not_false]; with_reducible exact rfl)); (focus first | assumption | exact rfl))
          | ((with_reducible apply arun_guard); (focus exact rfl); (focus (simp only [go_sem, ↓reduceIte, Nat.reduceEqDiff, reduceCtorEq, Nat.reduceAdd, e00, Bool.not_false]; with_reducible exact rfl)); (focus intro hb); rotate_left; (focus intro hb); rotate_right))
        all_goals (simp only [go_sem, ↓reduceIte, Nat.reduceEqDiff, reduceCtorEq, Nat.reduceAdd]; refine hK1 _ ?_; clear hK1 K1)
        refine awp_ret ?_
        simp only [go_sem, ↓reduceIte, Nat.reduceEqDiff, reduceCtorEq, Nat.reduceAdd, Res]
        rfl
      · cases hc
    ·
      have hr := rDM_pos (a := nv A) hb
      have hq := okL_limbs (nv A / nv C)
      have hm := okL_limbs (nv A % nv C)
      have hav := limbs_length_nv hA
      have hql := limbs_length_mono (Nat.div_le_self (nv A) (nv C))
      have hml := limbs_length_mono (Nat.mod_le (nv A) (nv C))
      have hlt := Nat.mod_lt (nv A) (show nv C > 0 by omega)
      have hdm : nv A / nv C * nv C + nv A % nv C = nv A := by rw [Nat.mul_comm]; exact Nat.div_add_mod _ _
      have hd : decide (nv C = 0) = false := by simpa using hb
      refine awp_seq_k fun K0 hK0 => ?_
      refine awp_region (Θ := Θ) (Γ := Γ) [0, 1, 5, 6, 7, 8] ΘOK ΓOK rfl ?_
      repeat' (first
        | (with_reducible refine arun_nil ?_)
        | ((with_reducible apply arun_any); (focus exact rfl); (focus (simp (disch := first | assumption | (with_reducible exact okL_limbs _) | omega) only [go_sem, ↓reduceIte, Nat.reduceEqDiff, reduceCtorEq, Nat.reduceAdd, hr]; with_reducible exact rfl)); with_reducible (first | refine okk_some ?_ | (refine okk_ite ?_ ?_; (focus omega)) | (refine okk_ifn ?_ ?_; (focus omega)))))
      all_goals (simp only [go_sem, ↓reduceIte, Nat.reduceEqDiff, reduceCtorEq, Nat.reduceAdd]; refine hK0 _ ?_; clear hK0 K0)
      refine awp_seq_k fun K0 hK0 => ?_
      refine awp_seq_k fun K1 hK1 => ?_
      refine awp_region (Θ := Θ) (Γ := Γ) [0, 1, 5, 6, 7, 8, 28] ΘOK ΓOK rfl ?_
      repeat' (first
        | (with_reducible refine arun_nil ?_)
        | ((with_reducible apply arun_any); (focus exact rfl); (focus (simp (disch := first | assumption | (with_reducible exact okL_limbs _) | omega) only [go_sem, ↓reduceIte, Nat.reduceEqDiff, reduceCtorEq, Nat.reduceAdd, bl_beq, hd]; with_reducible exact rfl)); with_reducible (first | refine okk_some ?_ | (refine okk_ite ?_ ?_; (focus omega)) | (refine okk_ifn ?_ ?_; (focus omega)))))
      all_goals (simp only [go_sem, ↓reduceIte, Nat.reduceEqDiff, reduceCtorEq, Nat.reduceAdd]; refine hK1 _ ?_; clear hK1 K1)
      apply awp_cond
      (focus (simp only [go_sem, ↓reduceIte, Nat.reduceEqDiff, reduceCtorEq, Nat.reduceAdd]; exact rfl))
      all_goals intro hc
      · cases hc
      ·
        refine awp_skip ?_
        refine hK0 _ ?_; clear hK0 K0
        have hpm : nv A * nv C / nv C = nv A := Nat.mul_div_cancel _ (by omega)
        have hpz : nv A * nv C % nv C = 0 := Nat.mul_mod_left _ _
        have hr2 := rDM_pos (a := nv A * nv C) hb
        rw [hpm, hpz, limbs_zero] at hr2
        have hPn := nv_limbs (nv A * nv C)
        have hP := okL_limbs (nv A * nv C)
        have hPl : (limbs (nv A * nv C)).length ≤ 200 := by
          refine limbs_length_le ?_
          have e1 := Nat.lt_of_lt_of_le (nv_lt hA) (Nat.pow_le_pow_right B_pos hAl)
          have e2 := Nat.lt_of_lt_of_le (nv_lt hC) (Nat.pow_le_pow_right B_pos hCl)
          rw [show (200 : Nat) = 100 + 100 from rfl, Nat.pow_add]
          exact Nat.mul_lt_mul_of_lt_of_lt e1 e2
        refine awp_seq_k fun K0 hK0 => ?_
        refine awp_region (Θ := Θ) (Γ := Γ) [0, 1, 5, 6, 7, 8, 9, 10, 11] ΘOK ΓOK rfl ?_
        repeat' (first
          | (with_reducible refine arun_nil ?_)
          | ((with_reducible apply arun_any); (focus exact rfl); (focus (simp (disch := first | assumption | (with_reducible exact okL_limbs _) | omega) only [go_sem, ↓reduceIte, Nat.reduceEqDiff, reduceCtorEq, Nat.reduceAdd, hPn, hr2]; with_reducible exact rfl)); with_reducible (first | refine okk_some ?_ | (refine okk_ite ?_ ?_; (focus omega)) | (refine okk_ifn ?_ ?_; (focus omega)))))
        all_goals (simp only [go_sem, ↓reduceIte, Nat.reduceEqDiff, reduceCtorEq, Nat.reduceAdd]; refine hK0 _ ?_; clear hK0 K0)
        have hQv := nv_limbs (nv A / nv C)
        have hRv := nv_limbs (nv A % nv C)
        have hAP := okL_limbs (nv A)
        have hXv := nv_limbs (nv A / nv C * nv C)
        have hX := okL_limbs (nv A / nv C * nv C)
        have hXl : (limbs (nv A / nv C * nv C)).length ≤ (limbs (nv A)).length := limbs_length_mono (by omega)
        generalize limbs (nv A / nv C) = Q at *
        generalize limbs (nv A % nv C) = R at *
        have hcmp : decide (cmpN (nv A % nv C) (nv C) < 0) = true := by
          unfold cmpN; rw [if_pos hlt]; rfl
        have hn : okL [] := okL_nil
        have e00 : (((([] : List Int).length : Nat) : Int) == 0) = true := rfl
        have hdec : decide (limbs (nv A) = limbs (nv A)) = true := by simp
        refine awp_seq_k fun K0 hK0 => ?_
        refine awp_region (Θ := Θ) (Γ := Γ) [4] ΘOK ΓOK rfl ?_
        repeat' (first
          | (with_reducible refine arun_nil ?_)
          | ((with_reducible apply arun_any); (focus exact rfl); (focus (simp (disch := first | assumption | (with_reducible exact okL_limbs _) | omega) only [go_sem, ↓reduceIte, Nat.reduceEqDiff, reduceCtorEq, Nat.reduceAdd, hQv, hRv, hXv, hcmp, hdm, e00, hdec]; with_reducible exact rfl)); with_reducible (first | refine okk_some ?_ | (refine okk_ite ?_ ?_; (focus omega)) | (refine okk_ifn ?_ ?_; (focus omega))))
          | ((with_reducible apply arun_gyes); (focus exact rfl); (focus (simp only [go_sem, ↓reduceIte, Nat.reduceEqDiff, reduceCtorEq, Nat.reduceAdd, hQv, hRv, hXv, hcmp, hdm, e00, hdec]; with_reducible exact rfl)); (focus first | assumption | exact rfl))
          | ((with_reducible apply arun_gundef); (focus exact rfl); (focus (simp only [go_sem, ↓reduceIte, Nat.reduceEqDiff, reduceCtorEq, Nat.reduceAdd, hQv, hRv, hXv, hcmp, hdm, e00, hdec]; done)))
          | ((with_reducible apply arun_gno); (focus exact rfl); (focus (simp only [go_sem, ↓reduceIte, Nat.reduceEqDiff, reduceCtorEq, Nat.reduceAdd, hQv, hRv, hXv, hcmp, hdm, e00, hdec]; with_reducible exact rfl)); (focus first | assumption | exact rfl))
          | ((with_reducible apply arun_guard); (focus exact rfl); (focus (simp only [go_sem, ↓reduceIte, Nat.reduceEqDiff, reduceCtorEq, Nat.reduceAdd, hQv, hRv, hXv, hcmp, hdm, e00, hdec]; with_reducible exact rfl)); (focus intro hb); rotate_left; (focus intro hb); rotate_right))
        all_goals (simp only [go_sem, ↓reduceIte, Nat.reduceEqDiff, reduceCtorEq, Nat.reduceAdd]; refine hK0 _ ?_; clear hK0 K0)
        refine awp_ret ?_
        simp only [go_sem, ↓reduceIte, Nat.reduceEqDiff, reduceCtorEq, Nat.reduceAdd, Res]
        rfl
end NatRests
end Go.Proofs
