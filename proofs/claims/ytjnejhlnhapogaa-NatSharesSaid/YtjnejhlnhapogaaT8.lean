/- Contracts of functions that the law reaches: what they compute. No condition. -/
import Derived.Test.YtjnejhlnhapogaaT7
set_option linter.unusedVariables false
set_option linter.unusedSimpArgs false
namespace Go.Proofs
open Go.Abs Go.NatMath
set_option linter.unusedVariables false
set_option linter.unusedSimpArgs false

/-! ### math/bits.Add32 -/
def spAdd32 : List AV → Option AV
  | [.val (.int .u32 x), .val (.int .u32 y), .val (.int .u32 b)] => if 0 ≤ x ∧ x < 4294967296 ∧ 0 ≤ y ∧ y < 4294967296 ∧ 0 ≤ b ∧ b ≤ 1 then some (.tup [.val (.int .u32 ((x + y + b) % 4294967296)), .val (.int .u32 ((x + y + b) / 4294967296))]) else none
  | _ => none
attribute [go_sem] spAdd32
namespace Add32
def Γ : FuncId → Abs.Spec := fun _ => .none
theorem ΓOK : ∀ f, SpecOK Try.prog f (Γ f) := fun _ => trivial
theorem ok : PureOK Try.prog 64 spAdd32 := by
  refine pure_of_awp (n := 22) [6, 7] Try.func64 rfl rfl rfl ?_
  intro M0 w0 args r h
  unfold spAdd32 at h
  split at h
  case h_2 => cases h
  rename_i x y b
  split at h
  case isFalse => cases h
  rename_i hx
  cases h
  refine ⟨by simp, ?_⟩
  refine awp_seq_k fun K0 hK0 => ?_
  refine awp_region (Θ := Θ) (Γ := Γ) [0, 1, 2] ΘOK ΓOK rfl ?_
  repeat' (first
    | (with_reducible refine arun_nil ?_)
    | ((with_reducible apply arun_any); (focus exact rfl); (focus (simp (disch := first | assumption | (with_reducible exact okL_limbs _) | omega) only [go_sem, ↓reduceIte, Nat.reduceEqDiff, reduceCtorEq, Nat.reduceAdd]; with_reducible exact rfl)); with_reducible (first | refine okk_some ?_ | (refine okk_ite ?_ ?_; (focus omega)) | (refine okk_ifn ?_ ?_; (focus omega)))))
  all_goals (simp only [go_sem, ↓reduceIte, Nat.reduceEqDiff, reduceCtorEq, Nat.reduceAdd]; refine hK0 _ ?_; clear hK0 K0)
  refine awp_seq_k fun K0 hK0 => ?_
  refine awp_region (Θ := Θ) (Γ := Γ) [8] ΘOK ΓOK rfl ?_
  repeat' (first
    | (with_reducible refine arun_nil ?_)
    | ((with_reducible apply arun_any); (focus exact rfl); (focus (simp (disch := first | assumption | (with_reducible exact okL_limbs _) | omega) only [go_sem, ↓reduceIte, Nat.reduceEqDiff, reduceCtorEq, Nat.reduceAdd]; with_reducible exact rfl)); with_reducible (first | refine okk_some ?_ | (refine okk_ite ?_ ?_; (focus omega)) | (refine okk_ifn ?_ ?_; (focus omega)))))
  all_goals (simp only [go_sem, ↓reduceIte, Nat.reduceEqDiff, reduceCtorEq, Nat.reduceAdd]; refine hK0 _ ?_; clear hK0 K0)
  refine awp_seq_k fun K0 hK0 => ?_
  refine awp_region (Θ := Θ) (Γ := Γ) [6, 8] ΘOK ΓOK rfl ?_
  repeat' (first
    | (with_reducible refine arun_nil ?_)
    | ((with_reducible apply arun_any); (focus exact rfl); (focus (simp (disch := first | assumption | (with_reducible exact okL_limbs _) | omega) only [go_sem, ↓reduceIte, Nat.reduceEqDiff, reduceCtorEq, Nat.reduceAdd]; with_reducible exact rfl)); with_reducible (first | refine okk_some ?_ | (refine okk_ite ?_ ?_; (focus omega)) | (refine okk_ifn ?_ ?_; (focus omega)))))
  all_goals (simp only [go_sem, ↓reduceIte, Nat.reduceEqDiff, reduceCtorEq, Nat.reduceAdd]; refine hK0 _ ?_; clear hK0 K0)
  refine awp_seq_k fun K0 hK0 => ?_
  refine awp_region (Θ := Θ) (Γ := Γ) [6, 7] ΘOK ΓOK rfl ?_
  repeat' (first
    | (with_reducible refine arun_nil ?_)
    | ((with_reducible apply arun_any); (focus exact rfl); (focus (simp (disch := first | assumption | (with_reducible exact okL_limbs _) | omega) only [go_sem, ↓reduceIte, Nat.reduceEqDiff, reduceCtorEq, Nat.reduceAdd]; with_reducible exact rfl)); with_reducible (first | refine okk_some ?_ | (refine okk_ite ?_ ?_; (focus omega)) | (refine okk_ifn ?_ ?_; (focus omega)))))
  all_goals (simp only [go_sem, ↓reduceIte, Nat.reduceEqDiff, reduceCtorEq, Nat.reduceAdd]; refine hK0 _ ?_; clear hK0 K0)
  refine awp_ret ?_
  have e : (x + y + b) / 4294967296 % 4294967296 = (x + y + b) / 4294967296 := by omega
  simp only [go_sem, ↓reduceIte, Nat.reduceEqDiff, reduceCtorEq, Nat.reduceAdd, Res, e]
end Add32

/-! ### nat.up -/
def fUp : List AV → Option (List Int)
  | [x, .val (.int .i64 n)] => (decK 1 x).bind fun L => if 0 ≤ n ∧ n < 32 then some (lim (L.length + 1) (nv L * 2 ^ n.toNat)) else none
  | _ => none
theorem fUp_some {args : List AV} {r : List Int} (h : fUp args = some r) : ∃ (L : List Int) (n : Nat), args = [.lst (ints .u32 L), .val (.int .i64 n)] ∧ okL L ∧ L.length + 1 ≤ 35184372088831 ∧ n < 32 ∧ r = lim (L.length + 1) (nv L * 2 ^ n) := by
  unfold fUp at h
  split at h
  · rename_i x n
    obtain ⟨L, h1, h2⟩ := Option.bind_eq_some_iff.1 h
    obtain ⟨rfl, g2, g3⟩ := decK_some h1
    split at h2
    · rename_i hc
      cases h2
      obtain ⟨m, rfl⟩ := Int.eq_ofNat_of_zero_le hc.1
      exact ⟨L, m, rfl, g2, g3, by omega, rfl⟩
    · cases h2
  · cases h
def spUp : List AV → Option AV := fun args => (fUp args).map fun L => .lst (ints .u32 L)
attribute [go_sem] spUp fUp
namespace Up
def Γ : FuncId → Abs.Spec := fun _ => .none
theorem ΓOK : ∀ f, SpecOK Try.prog f (Γ f) := fun _ => trivial
theorem walk (M0 : Nat → Prop) (w0 : Bs) (args : List AV) (r : List Int) (h : fUp args = some r) : args.length ≤ 40 ∧
    AWP Try.prog 40 M0 w0 (Try.f58.body.getD .skip) (fun σ => ∃ id, σ.t 4 = .own id ∧ σ.h id = some ⟨48, 1, ints .u32 r, none⟩) (fun _ _ => False) (fun σ => ∃ id, σ.t 4 = .own id ∧ σ.h id = some ⟨48, 1, ints .u32 r, none⟩) (st (args0 args 0) []) := by
  obtain ⟨L, n, rfl, hL, hLl, hn, rfl⟩ := fUp_some h
  clear h
  refine ⟨by simp, ?_⟩
  show AWP _ _ _ _ (.seq _ _) _ _ _ _
  have hP := pow_pos2 n
  have hP2 := pow_le31 hn
  have hPd := pow_dvd32 (Nat.le_of_lt hn)
  refine awp_seq_k fun K0 hK0 => ?_
  refine awp_region (Θ := Θ) (Γ := Γ) [0, 1] ΘOK ΓOK rfl ?_
  repeat' (first
    | (with_reducible refine arun_nil ?_)
    | ((with_reducible apply arun_any); (focus exact rfl); (focus (simp (disch := first | assumption | (with_reducible exact okL_limbs _) | omega) only [go_sem, ↓reduceIte, Nat.reduceEqDiff, reduceCtorEq, Nat.reduceAdd]; with_reducible exact rfl)); with_reducible (first | refine okk_some ?_ | (refine okk_ite ?_ ?_; (focus omega)) | (refine okk_ifn ?_ ?_; (focus omega)))))
  all_goals (simp only [go_sem, ↓reduceIte, Nat.reduceEqDiff, reduceCtorEq, Nat.reduceAdd]; refine hK0 _ ?_; clear hK0 K0)
  refine awp_seq_k fun K0 hK0 => ?_
  refine awp_region (Θ := Θ) (Γ := Γ) [0, 1, 5] ΘOK ΓOK rfl ?_
  repeat' (first
    | (with_reducible refine arun_nil ?_)
    | ((with_reducible apply arun_any); (focus exact rfl); (focus (simp (disch := first | assumption | (with_reducible exact okL_limbs _) | omega) only [go_sem, ↓reduceIte, Nat.reduceEqDiff, reduceCtorEq, Nat.reduceAdd]; with_reducible exact rfl)); with_reducible (first | refine okk_some ?_ | (refine okk_ite ?_ ?_; (focus omega)) | (refine okk_ifn ?_ ?_; (focus omega)))))
  all_goals (simp only [go_sem, ↓reduceIte, Nat.reduceEqDiff, reduceCtorEq, Nat.reduceAdd]; refine hK0 _ ?_; clear hK0 K0)
  rw [show ((L.length : Int) + 1).toNat = L.length + 1 by omega]
  refine awp_seq_k fun K0 hK0 => ?_
  refine awp_seq_k fun K1 hK1 => ?_
  refine awp_region (Θ := Θ) (Γ := Γ) [1, 5, 12, 13, 14] ΘOK ΓOK rfl ?_
  repeat' (first
    | (with_reducible refine arun_nil ?_)
    | ((with_reducible apply arun_any); (focus exact rfl); (focus (simp (disch := first | assumption | (with_reducible exact okL_limbs _) | omega) only [go_sem, ↓reduceIte, Nat.reduceEqDiff, reduceCtorEq, Nat.reduceAdd]; with_reducible exact rfl)); with_reducible (first | refine okk_some ?_ | (refine okk_ite ?_ ?_; (focus omega)) | (refine okk_ifn ?_ ?_; (focus omega)))))
  all_goals (simp only [go_sem, ↓reduceIte, Nat.reduceEqDiff, reduceCtorEq, Nat.reduceAdd]; refine hK1 _ ?_; clear hK1 K1)
  refine awp_block ?_   -- 0
  refine awp_loop_st (ι := Nat × List Int) (fun p => [(1, vInt .i64 n), (5, .own 11), (12, .lst (ints .u32 L)), (13, vInt .i64 L.length), (14, vInt .i64 p.1)]) (fun p => [(11, ⟨48, 1, ints .u32 p.2, none⟩)]) (fun p => L.length - p.1)
    (fun p => p.1 ≤ L.length ∧ okL p.2 ∧ p.2.length = L.length + 1 ∧ iv p.2 = iv (L.take p.1) * 2 ^ n ∧ p.2.getD p.1 0 < 2 ^ n ∧ ∀ k, p.1 < k → p.2.getD k 0 = 0) (0, List.replicate (L.length + 1) 0)
    ⟨by omega, okL_replicate _, by simp, by simp [iv, nv_replicate, nv], by rw [getD_replicate]; exact hP, fun k _ => getD_replicate _ _⟩ (by simp [agree_cons, agree_nil, slook_cons, vInt]) (by simp [ints]) ?_
  rintro ⟨i, O⟩ ⟨h1, h2, h3, h4, h5, h6⟩
  simp only at h1 h2 h3 h4 h5 h6 ⊢
  refine awp_seq_k fun K1 hK1 => ?_
  refine awp_region (Θ := Θ) (Γ := Γ) [1, 5, 12, 13, 14, 15] ΘOK ΓOK rfl ?_
  repeat' (first
    | (with_reducible refine arun_nil ?_)
    | ((with_reducible apply arun_any); (focus exact rfl); (focus (simp (disch := first | assumption | (with_reducible exact okL_limbs _) | omega) only [go_sem, ↓reduceIte, Nat.reduceEqDiff, reduceCtorEq, Nat.reduceAdd]; with_reducible exact rfl)); with_reducible (first | refine okk_some ?_ | (refine okk_ite ?_ ?_; (focus omega)) | (refine okk_ifn ?_ ?_; (focus omega)))))
  all_goals (simp only [go_sem, ↓reduceIte, Nat.reduceEqDiff, reduceCtorEq, Nat.reduceAdd]; refine hK1 _ ?_; clear hK1 K1)
  refine awp_seq_k fun K1 hK1 => ?_
  apply awp_cond
  (focus (simp only [go_sem, ↓reduceIte, Nat.reduceEqDiff, reduceCtorEq, Nat.reduceAdd]; exact rfl))
  all_goals intro hc
  ·
    have hi : i < L.length := by simpa using hc
    clear hc
    refine awp_skip ?_
    refine hK1 _ ?_; clear hK1 K1
    have hx := okL_get hL i
    have ho := okL_get h2 i
    have hst := up_step hL h2 (n := n) (i := i) (by omega) (h6 (i + 1) (by omega)) h4
    have hy0 : 0 ≤ L.getD i 0 * 2 ^ n := Int.mul_nonneg hx.1 (Int.le_of_lt hP)
    have hy1 : L.getD i 0 * 2 ^ n < 4294967296 * 2 ^ n := Int.mul_lt_mul_of_pos_right hx.2 hP
    have hym : L.getD i 0 * 2 ^ n % 4294967296 % 2 ^ n = 0 := by
      rw [Int.emod_emod_of_dvd _ hPd]; exact Int.mul_emod_left _ _
    have hyq : L.getD i 0 * 2 ^ n / 4294967296 < 2 ^ n := by
      generalize L.getD i 0 * 2 ^ n = A at hy1 ⊢
      generalize (2 : Int) ^ n = p at hy1 ⊢
      omega
    have hrm := low_room hP hPd (b := L.getD i 0 * 2 ^ n % 4294967296) (by omega) hym
    have hor := or_low (a := O.getD i 0) (b := L.getD i 0 * 2 ^ n % 4294967296) (n := n) ho.1 h5 (by omega) (by omega) hym ho.2
    generalize hxe : L.getD i 0 = x at *
    generalize hoe : O.getD i 0 = o at *
    have e32 : x * 2 ^ min n 32 = x * 2 ^ n := by rw [Nat.min_eq_left (by omega)]
    have e64 : x * 2 ^ min n 64 = x * 2 ^ n := by rw [Nat.min_eq_left (by omega)]
    generalize hye : x * 2 ^ n = y at *
    have eq : y / 4294967296 % 4294967296 = y / 4294967296 := by omega
    have e1 : ((i : Int) + 1).toNat = i + 1 := by omega
    have hst := hst (by omega) (by omega)
    refine awp_seq_k fun K1 hK1 => ?_
    refine awp_block ?_   -- 1
    refine awp_seq_k fun K2 hK2 => ?_
    refine awp_region (Θ := Θ) (Γ := Γ) [1, 5, 6, 7, 12, 13, 14] ΘOK ΓOK rfl ?_
    repeat' (first
      | (with_reducible refine arun_nil ?_)
      | ((with_reducible apply arun_any); (focus exact rfl); (focus (simp (disch := first | assumption | (with_reducible exact okL_limbs _) | omega) only [go_sem, ↓reduceIte, Nat.reduceEqDiff, reduceCtorEq, Nat.reduceAdd, hxe, hoe, e32, e64, hor, eq, e1, hye]; with_reducible exact rfl)); with_reducible (first | refine okk_some ?_ | (refine okk_ite ?_ ?_; (focus omega)) | (refine okk_ifn ?_ ?_; (focus omega)))))
    all_goals (simp only [go_sem, ↓reduceIte, Nat.reduceEqDiff, reduceCtorEq, Nat.reduceAdd]; refine hK2 _ ?_; clear hK2 K2)
    refine awp_seq_k fun K2 hK2 => ?_
    refine awp_draw (Θ := Θ) (Γ := Γ) [1, 5, 6, 7, 12, 13, 14] ΘOK ΓOK mixed rfl (by decide +kernel) ?_
    repeat' (first
      | (with_reducible refine arunD_nil ?_)
      | ((with_reducible apply arunD_step); (focus (simp (disch := first | assumption | (with_reducible exact okL_limbs _) | omega) only [go_sem, ↓reduceIte, Nat.reduceEqDiff, reduceCtorEq, Nat.reduceAdd, hxe, hoe, e32, e64, hor, eq, e1, hye]; with_reducible exact rfl)))
      | ((with_reducible apply arunD_if); (focus (simp (disch := first | assumption | (with_reducible exact okL_limbs _) | omega) only [go_sem, ↓reduceIte, Nat.reduceEqDiff, reduceCtorEq, Nat.reduceAdd, hxe, hoe, e32, e64, hor, eq, e1, hye]; with_reducible exact rfl)); (focus omega))
      | ((with_reducible apply arunD_ifn); (focus (simp (disch := first | assumption | (with_reducible exact okL_limbs _) | omega) only [go_sem, ↓reduceIte, Nat.reduceEqDiff, reduceCtorEq, Nat.reduceAdd, hxe, hoe, e32, e64, hor, eq, e1, hye]; with_reducible exact rfl)); (focus omega)))
    all_goals (simp only [go_sem, ↓reduceIte, Nat.reduceEqDiff, reduceCtorEq, Nat.reduceAdd])
    refine hK2 _ ?_; clear hK2 K2
    refine awp_region (Θ := Θ) (Γ := Γ) [1, 5, 12, 13, 14] ΘOK ΓOK rfl ?_
    repeat' (first
      | (with_reducible refine arun_nil ?_)
      | ((with_reducible apply arun_any); (focus exact rfl); (focus (simp (disch := first | assumption | (with_reducible exact okL_limbs _) | omega) only [go_sem, ↓reduceIte, Nat.reduceEqDiff, reduceCtorEq, Nat.reduceAdd, hxe, hoe, e32, e64, hor, eq, e1, hye]; with_reducible exact rfl)); with_reducible (first | refine okk_some ?_ | (refine okk_ite ?_ ?_; (focus omega)) | (refine okk_ifn ?_ ?_; (focus omega)))))
    all_goals (simp only [go_sem, ↓reduceIte, Nat.reduceEqDiff, reduceCtorEq, Nat.reduceAdd])
    refine hK1 _ ?_; clear hK1 K1
    refine awp_region (Θ := Θ) (Γ := Γ) [1, 5, 12, 13, 14] ΘOK ΓOK rfl ?_
    repeat' (first
      | (with_reducible refine arun_nil ?_)
      | ((with_reducible apply arun_any); (focus exact rfl); (focus (simp (disch := first | assumption | (with_reducible exact okL_limbs _) | omega) only [go_sem, ↓reduceIte, Nat.reduceEqDiff, reduceCtorEq, Nat.reduceAdd, hxe, hoe, e32, e64, hor, eq, e1, hye]; with_reducible exact rfl)); with_reducible (first | refine okk_some ?_ | (refine okk_ite ?_ ?_; (focus omega)) | (refine okk_ifn ?_ ?_; (focus omega)))))
    all_goals (simp only [go_sem, ↓reduceIte, Nat.reduceEqDiff, reduceCtorEq, Nat.reduceAdd])
    refine ⟨(i + 1, (O.set i (o + y % 4294967296)).set (i + 1) (y / 4294967296)), ⟨by simp only; omega, okL_set (okL_set h2 _ (by omega)) _ (by omega), by simpa using h3, hst, ?_, fun k hk => ?_⟩, ?_, rfl, by simp only; omega⟩
    ·
      simp only
      rw [getD_set, if_pos ⟨rfl, by simp; omega⟩]
      exact hyq
    ·
      simp only at hk ⊢
      rw [getD_set, if_neg (by omega), getD_set, if_neg (by omega)]
      exact h6 k (by omega)
    ·
      first | (simp [agree_cons, agree_nil, slook_cons, vInt]; done) | (simp [agree_cons, agree_nil, slook_cons, vInt]; omega) | (simp [agree_cons, agree_nil, slook_cons, vInt]; grind)
  ·
    have hi : i = L.length := by simp at hc; omega
    subst hi
    rw [iv_take_ge (Nat.le_refl _)] at h4
    have hv : nv O = nv L * 2 ^ n := by
      unfold iv at h4
      rw [pow_cast, ← Int.natCast_mul] at h4
      omega
    refine awp_exit ?_   -- exit 0
    simp only [Nat.reduceEqDiff, ↓reduceIte]
    refine hK0 _ ?_; clear hK0 K0 hK1 K1
    refine awp_seq_k fun K0 hK0 => ?_
    refine awp_region (Θ := Θ) (Γ := Γ) [4] ΘOK ΓOK rfl ?_
    repeat' (first
      | (with_reducible refine arun_nil ?_)
      | ((with_reducible apply arun_any); (focus exact rfl); (focus (simp (disch := first | assumption | (with_reducible exact okL_limbs _) | omega) only [go_sem, ↓reduceIte, Nat.reduceEqDiff, reduceCtorEq, Nat.reduceAdd]; with_reducible exact rfl)); with_reducible (first | refine okk_some ?_ | (refine okk_ite ?_ ?_; (focus omega)) | (refine okk_ifn ?_ ?_; (focus omega)))))
    all_goals (simp only [go_sem, ↓reduceIte, Nat.reduceEqDiff, reduceCtorEq, Nat.reduceAdd]; refine hK0 _ ?_; clear hK0 K0)
    refine awp_ret ?_
    rw [← eq_lim h2 h3 hv]
    exact ⟨11, rfl, rfl⟩
theorem owned : OwnedOK Try.prog 58 (spOwn 48 .u32 fUp) := owned_of_awp (n := 40) 4 Try.func58 rfl rfl rfl walk
theorem ok : PureOK Try.prog 58 spUp := pure_of_owned_walk (n := 40) 4 Try.func58 rfl rfl rfl walk
end Up
end Go.Proofs

namespace Go.Proofs
open Go.Abs Go.NatMath
set_option linter.unusedVariables false
set_option linter.unusedSimpArgs false

/-! ### nat.down -/
def spDown : List AV → Option AV
  | [x, .val (.int .i64 n)] => (decK 0 x).bind fun L => if 0 ≤ n ∧ n < 32 then some (U (nv L / 2 ^ n.toNat)) else none
  | _ => none
attribute [go_sem] spDown
theorem spDown_some {args : List AV} {r : AV} (h : spDown args = some r) : ∃ (L : List Int) (n : Nat), args = [.lst (ints .u32 L), .val (.int .i64 n)] ∧ okL L ∧ L.length ≤ 35184372088831 ∧ n < 32 ∧ r = U (nv L / 2 ^ n) := by
  unfold spDown at h
  split at h
  · rename_i x n
    obtain ⟨L, h1, h2⟩ := Option.bind_eq_some_iff.1 h
    obtain ⟨rfl, g2, g3⟩ := decK_some h1
    split at h2
    · rename_i hc
      cases h2
      obtain ⟨m, rfl⟩ := Int.eq_ofNat_of_zero_le hc.1
      exact ⟨L, m, rfl, g2, g3, by omega, rfl⟩
    · cases h2
  · cases h
theorem down_limb {n : Nat} (hn : n < 32) {x y : Int} (hx : 0 ≤ x ∧ x < 4294967296) (hy : 0 ≤ y ∧ y < 4294967296) :
    (0 ≤ x / 2 ^ n ∧ x / 2 ^ n < 4294967296) ∧ (y * 4294967296).fdiv (2 ^ n) % 4294967296 = y % 2 ^ n * 2 ^ (32 - n) ∧ (0 ≤ x / 2 ^ n + y % 2 ^ n * 2 ^ (32 - n) ∧ x / 2 ^ n + y % 2 ^ n * 2 ^ (32 - n) < 4294967296) ∧
    bitsOp .or .u32 (x / 2 ^ n) (y % 2 ^ n * 2 ^ (32 - n)) = x / 2 ^ n + y % 2 ^ n * 2 ^ (32 - n) := by
  have hP := pow_pos2 n
  have hQ := pow_pos2 (32 - n)
  have hPQ := pow_mul_split (Nat.le_of_lt hn)
  have hq0 : 0 ≤ x / 2 ^ n := Int.ediv_nonneg hx.1 (Int.le_of_lt hP)
  have hqQ : x / 2 ^ n < 2 ^ (32 - n) := Int.ediv_lt_of_lt_mul hP (by rw [Int.mul_comm, ← hPQ]; exact hx.2)
  have hqx : x / 2 ^ n ≤ x := Int.ediv_le_self _ hx.1
  have hm0 := Int.emod_nonneg y (show (2 : Int) ^ n ≠ 0 by omega)
  have hm1 := Int.emod_lt_of_pos y hP
  have hz0 : 0 ≤ y % 2 ^ n * 2 ^ (32 - n) := Int.mul_nonneg hm0 (Int.le_of_lt hQ)
  have hz1 : y % 2 ^ n * 2 ^ (32 - n) < 4294967296 := by
    rw [hPQ]; exact Int.mul_lt_mul_of_pos_right hm1 hQ
  have hzm : y % 2 ^ n * 2 ^ (32 - n) % 2 ^ (32 - n) = 0 := Int.mul_emod_left _ _
  have hrm := low_room hQ (pow_dvd32 (by omega)) hz1 hzm
  refine ⟨⟨hq0, by omega⟩, ?_, ⟨by omega, by omega⟩, or_low hq0 hqQ hz0 hz1 hzm (by omega)⟩
  rw [fdiv_pow]
  have e : y * 4294967296 / 2 ^ n = y * 2 ^ (32 - n) := by
    rw [hPQ, Int.mul_comm (2 ^ n) _, ← Int.mul_assoc]
    exact Int.mul_ediv_cancel _ (by omega)
  rw [e, hPQ]
  rw [Int.mul_comm y, Int.mul_comm (2 ^ n), Int.mul_emod_mul_of_pos _ _ hQ, Int.mul_comm]
theorem getD_set_same (L : List Int) {i : Nat} (v : Int) (h : i < L.length) : (L.set i v).getD i 0 = v := by rw [getD_set, if_pos ⟨rfl, h⟩]
namespace Down
def Γ : FuncId → Abs.Spec
  | 47 => .pure spTrim
  | _ => .none
theorem ΓOK : ∀ f, SpecOK Try.prog f (Γ f) := by
  intro f
  unfold Γ
  split
  · exact ⟨⟨_, Try.func47, by decide +kernel, rfl⟩, Trim.ok⟩
  · trivial
attribute [local go_sem] Γ
theorem ok : PureOK Try.prog 59 spDown := by
  refine pure_of_awp (n := 48) [4] Try.func59 rfl rfl rfl ?_
  intro M0 w0 args r h
  obtain ⟨L, n, rfl, hL, hLl, hn, rfl⟩ := spDown_some h
  clear h
  refine ⟨by simp, ?_⟩
  refine awp_seq_k fun K0 hK0 => ?_
  refine awp_region (Θ := Θ) (Γ := Γ) [0, 1] ΘOK ΓOK rfl ?_
  repeat' (first
    | (with_reducible refine arun_nil ?_)
    | ((with_reducible apply arun_any); (focus exact rfl); (focus (simp (disch := first | assumption | (with_reducible exact okL_limbs _) | omega) only [go_sem, ↓reduceIte, Nat.reduceEqDiff, reduceCtorEq, Nat.reduceAdd]; with_reducible exact rfl)); with_reducible (first | refine okk_some ?_ | (refine okk_ite ?_ ?_; (focus omega)) | (refine okk_ifn ?_ ?_; (focus omega)))))
  all_goals (simp only [go_sem, ↓reduceIte, Nat.reduceEqDiff, reduceCtorEq, Nat.reduceAdd]; refine hK0 _ ?_; clear hK0 K0)
  refine awp_seq_k fun K0 hK0 => ?_
  refine awp_region (Θ := Θ) (Γ := Γ) [0, 1, 5] ΘOK ΓOK rfl ?_
  repeat' (first
    | (with_reducible refine arun_nil ?_)
    | ((with_reducible apply arun_any); (focus exact rfl); (focus (simp (disch := first | assumption | (with_reducible exact okL_limbs _) | omega) only [go_sem, ↓reduceIte, Nat.reduceEqDiff, reduceCtorEq, Nat.reduceAdd]; with_reducible exact rfl)); with_reducible (first | refine okk_some ?_ | (refine okk_ite ?_ ?_; (focus omega)) | (refine okk_ifn ?_ ?_; (focus omega)))))
  all_goals (simp only [go_sem, ↓reduceIte, Nat.reduceEqDiff, reduceCtorEq, Nat.reduceAdd]; refine hK0 _ ?_; clear hK0 K0)
  refine awp_seq_k fun K0 hK0 => ?_
  refine awp_seq_k fun K1 hK1 => ?_
  refine awp_region (Θ := Θ) (Γ := Γ) [0, 1, 5, 11, 12, 13] ΘOK ΓOK rfl ?_
  repeat' (first
    | (with_reducible refine arun_nil ?_)
    | ((with_reducible apply arun_any); (focus exact rfl); (focus (simp (disch := first | assumption | (with_reducible exact okL_limbs _) | omega) only [go_sem, ↓reduceIte, Nat.reduceEqDiff, reduceCtorEq, Nat.reduceAdd]; with_reducible exact rfl)); with_reducible (first | refine okk_some ?_ | (refine okk_ite ?_ ?_; (focus omega)) | (refine okk_ifn ?_ ?_; (focus omega)))))
  all_goals (simp only [go_sem, ↓reduceIte, Nat.reduceEqDiff, reduceCtorEq, Nat.reduceAdd]; refine hK1 _ ?_; clear hK1 K1)
  refine awp_block ?_   -- 0
  refine awp_loop_st (ι := Nat × List Int) (fun p => [(0, .lst (ints .u32 L)), (1, vInt .i64 n), (5, .own 10), (11, .lst (ints .u32 L)), (12, vInt .i64 L.length), (13, vInt .i64 p.1)]) (fun p => [(10, ⟨48, 1, ints .u32 p.2, none⟩)]) (fun p => L.length - p.1)
    (fun p => p.1 ≤ L.length ∧ okL p.2 ∧ p.2.length = L.length ∧ 2 ^ n * iv (p.2.take p.1) + L.getD 0 0 % 2 ^ n = iv (L.take p.1) + W p.1 * (L.getD p.1 0 % 2 ^ n)) (0, List.replicate L.length 0)
    ⟨by omega, okL_replicate _, by simp, by simp [iv_nil, W_zero]⟩ (by simp [agree_cons, agree_nil, slook_cons, vInt]) (by simp [ints]) ?_
  rintro ⟨i, O⟩ ⟨h1, h2, h3, h4⟩
  simp only at h1 h2 h3 h4 ⊢
  refine awp_seq_k fun K1 hK1 => ?_
  refine awp_region (Θ := Θ) (Γ := Γ) [0, 1, 5, 11, 12, 13, 14] ΘOK ΓOK rfl ?_
  repeat' (first
    | (with_reducible refine arun_nil ?_)
    | ((with_reducible apply arun_any); (focus exact rfl); (focus (simp (disch := first | assumption | (with_reducible exact okL_limbs _) | omega) only [go_sem, ↓reduceIte, Nat.reduceEqDiff, reduceCtorEq, Nat.reduceAdd]; with_reducible exact rfl)); with_reducible (first | refine okk_some ?_ | (refine okk_ite ?_ ?_; (focus omega)) | (refine okk_ifn ?_ ?_; (focus omega)))))
  all_goals (simp only [go_sem, ↓reduceIte, Nat.reduceEqDiff, reduceCtorEq, Nat.reduceAdd]; refine hK1 _ ?_; clear hK1 K1)
  refine awp_seq_k fun K1 hK1 => ?_
  apply awp_cond
  (focus (simp only [go_sem, ↓reduceIte, Nat.reduceEqDiff, reduceCtorEq, Nat.reduceAdd]; exact rfl))
  all_goals intro hc
  ·
    have hi : i < L.length := by simpa using hc
    clear hc
    refine awp_skip ?_
    refine hK1 _ ?_; clear hK1 K1
    have hx := okL_get hL i
    have hy := okL_get hL (i + 1)
    obtain ⟨g1, g2, g3, g4⟩ := down_limb hn hx hy
    have hst := down_step hL h2 (n := n) (i := i) (by omega) (by omega) h4 rfl g3
    have hend : L.length ≤ i + 1 → L.getD (i + 1) 0 = 0 := fun h => getD_ge L h
    have e1 : ((i : Int) + 1).toNat = i + 1 := by omega
    generalize hye : L.getD (i + 1) 0 = y at *
    generalize hxe : L.getD i 0 = x at *
    have e32 : x.fdiv (2 ^ min n 32) = x / 2 ^ n := by rw [Nat.min_eq_left (by omega), fdiv_pow]
    have e64 : (y * 4294967296).fdiv (2 ^ min n 64) = (y * 4294967296).fdiv (2 ^ n) := by rw [Nat.min_eq_left (by omega)]
    generalize (y * 4294967296).fdiv (2 ^ n) = z0 at *
    generalize hze : y % 2 ^ n * 2 ^ (32 - n) = z at *
    generalize x / 2 ^ n = q at *
    have hgs := getD_set_same O (i := i) q (by omega)
    have hgl : i < (O.set i q).length := by simp; omega
    refine awp_seq_k fun K1 hK1 => ?_
    have fin : ∀ (v : Int) (σ : St), v = q + z → agree [(0, .lst (ints .u32 L)), (1, vInt .i64 n), (5, .own 10), (11, .lst (ints .u32 L)), (12, vInt .i64 L.length), (13, vInt .i64 i)] σ.t → σ.h = hlook [(10, ⟨48, 1, ints .u32 (O.set i v), none⟩)] → K1 σ := by
      intro v σ hv hag hh
      subst hv
      refine hK1 σ ?_
      refine awp_forget _ hag ?_
      rw [hh]
      refine awp_region (Θ := Θ) (Γ := Γ) [0, 1, 5, 11, 12, 13] ΘOK ΓOK rfl ?_
      repeat' (first
        | (with_reducible refine arun_nil ?_)
        | ((with_reducible apply arun_any); (focus exact rfl); (focus (simp (disch := first | assumption | (with_reducible exact okL_limbs _) | omega) only [go_sem, ↓reduceIte, Nat.reduceEqDiff, reduceCtorEq, Nat.reduceAdd]; with_reducible exact rfl)); with_reducible (first | refine okk_some ?_ | (refine okk_ite ?_ ?_; (focus omega)) | (refine okk_ifn ?_ ?_; (focus omega)))))
      all_goals (simp only [go_sem, ↓reduceIte, Nat.reduceEqDiff, reduceCtorEq, Nat.reduceAdd])
      refine ⟨(i + 1, O.set i (q + z)), ⟨by simp only; omega, okL_set h2 _ g3, by simpa using h3, by simp only; rw [hye]; exact hst⟩, ?_, rfl, by simp only; omega⟩
      first | (simp [agree_cons, agree_nil, slook_cons, vInt]; done) | (simp [agree_cons, agree_nil, slook_cons, vInt]; omega) | (simp [agree_cons, agree_nil, slook_cons, vInt]; grind)
    refine awp_block ?_   -- 1
    refine awp_seq_k fun K2 hK2 => ?_
    refine awp_region (Θ := Θ) (Γ := Γ) [0, 1, 5, 6, 7, 11, 12, 13] ΘOK ΓOK rfl ?_
    repeat' (first
      | (with_reducible refine arun_nil ?_)
      | ((with_reducible apply arun_any); (focus exact rfl); (focus (simp (disch := first | assumption | (with_reducible exact okL_limbs _) | omega) only [go_sem, ↓reduceIte, Nat.reduceEqDiff, reduceCtorEq, Nat.reduceAdd, hxe]; with_reducible exact rfl)); with_reducible (first | refine okk_some ?_ | (refine okk_ite ?_ ?_; (focus omega)) | (refine okk_ifn ?_ ?_; (focus omega)))))
    all_goals (simp only [go_sem, ↓reduceIte, Nat.reduceEqDiff, reduceCtorEq, Nat.reduceAdd]; refine hK2 _ ?_; clear hK2 K2)
    refine awp_seq_k fun K2 hK2 => ?_
    refine awp_region (Θ := Θ) (Γ := Γ) [0, 1, 5, 6, 11, 12, 13] ΘOK ΓOK rfl ?_
    repeat' (first
      | (with_reducible refine arun_nil ?_)
      | ((with_reducible apply arun_any); (focus exact rfl); (focus (simp (disch := first | assumption | (with_reducible exact okL_limbs _) | omega) only [go_sem, ↓reduceIte, Nat.reduceEqDiff, reduceCtorEq, Nat.reduceAdd, e32]; with_reducible exact rfl)); with_reducible (first | refine okk_some ?_ | (refine okk_ite ?_ ?_; (focus omega)) | (refine okk_ifn ?_ ?_; (focus omega)))))
    all_goals (simp only [go_sem, ↓reduceIte, Nat.reduceEqDiff, reduceCtorEq, Nat.reduceAdd]; refine hK2 _ ?_; clear hK2 K2)
    refine awp_seq_k fun K2 hK2 => ?_
    refine awp_region (Θ := Θ) (Γ := Γ) [0, 1, 5, 6, 11, 12, 13, 28] ΘOK ΓOK rfl ?_
    repeat' (first
      | (with_reducible refine arun_nil ?_)
      | ((with_reducible apply arun_any); (focus exact rfl); (focus (simp (disch := first | assumption | (with_reducible exact okL_limbs _) | omega) only [go_sem, ↓reduceIte, Nat.reduceEqDiff, reduceCtorEq, Nat.reduceAdd]; with_reducible exact rfl)); with_reducible (first | refine okk_some ?_ | (refine okk_ite ?_ ?_; (focus omega)) | (refine okk_ifn ?_ ?_; (focus omega)))))
    all_goals (simp only [go_sem, ↓reduceIte, Nat.reduceEqDiff, reduceCtorEq, Nat.reduceAdd]; refine hK2 _ ?_; clear hK2 K2)
    apply awp_cond
    (focus (simp only [go_sem, ↓reduceIte, Nat.reduceEqDiff, reduceCtorEq, Nat.reduceAdd]; exact rfl))
    all_goals intro hc
    ·
      have hi2 : i + 1 < L.length := by simp at hc; omega
      refine awp_draw (Θ := Θ) (Γ := Γ) [0, 1, 5, 11, 12, 13] ΘOK ΓOK mixed rfl (by decide +kernel) ?_
      repeat' (first
        | (with_reducible refine arunD_nil ?_)
        | ((with_reducible apply arunD_step); (focus (simp (disch := first | assumption | (with_reducible exact okL_limbs _) | omega) only [go_sem, ↓reduceIte, Nat.reduceEqDiff, reduceCtorEq, Nat.reduceAdd, hye, e64, hgs, g2, g4, e1, List.set_set]; with_reducible exact rfl)))
        | ((with_reducible apply arunD_if); (focus (simp (disch := first | assumption | (with_reducible exact okL_limbs _) | omega) only [go_sem, ↓reduceIte, Nat.reduceEqDiff, reduceCtorEq, Nat.reduceAdd, hye, e64, hgs, g2, g4, e1, List.set_set]; with_reducible exact rfl)); (focus omega))
        | ((with_reducible apply arunD_ifn); (focus (simp (disch := first | assumption | (with_reducible exact okL_limbs _) | omega) only [go_sem, ↓reduceIte, Nat.reduceEqDiff, reduceCtorEq, Nat.reduceAdd, hye, e64, hgs, g2, g4, e1, List.set_set]; with_reducible exact rfl)); (focus omega)))
      all_goals (simp only [go_sem, ↓reduceIte, Nat.reduceEqDiff, reduceCtorEq, Nat.reduceAdd])
      refine fin (q + z) _ rfl ?_ ?_
      ·
        first | (simp [agree_cons, agree_nil, slook_cons, vInt]; done) | (simp [agree_cons, agree_nil, slook_cons, vInt]; omega) | (simp [agree_cons, agree_nil, slook_cons, vInt]; grind)
      · first | rfl | simp only [List.set_set]
    ·
      have hi2 : L.length ≤ i + 1 := by simp at hc; omega
      have hy0 := hend hi2
      subst hy0
      refine awp_skip ?_
      have hz : z = 0 := by rw [← hze]; simp
      refine fin q _ (by omega) ?_ rfl
      first | (simp [agree_cons, agree_nil, slook_cons, vInt]; done) | (simp [agree_cons, agree_nil, slook_cons, vInt]; omega) | (simp [agree_cons, agree_nil, slook_cons, vInt]; grind)
  ·
    have hi : i = L.length := by simp at hc; omega
    subst hi
    have hv := down_end hL h3 h4
    refine awp_exit ?_   -- exit 0
    simp only [Nat.reduceEqDiff, ↓reduceIte]
    refine hK0 _ ?_; clear hK0 K0 hK1 K1
    refine awp_seq_k fun K0 hK0 => ?_
    refine awp_region (Θ := Θ) (Γ := Γ) [4] ΘOK ΓOK rfl ?_
    repeat' (first
      | (with_reducible refine arun_nil ?_)
      | ((with_reducible apply arun_any); (focus exact rfl); (focus (simp (disch := first | assumption | (with_reducible exact okL_limbs _) | omega) only [go_sem, ↓reduceIte, Nat.reduceEqDiff, reduceCtorEq, Nat.reduceAdd]; with_reducible exact rfl)); with_reducible (first | refine okk_some ?_ | (refine okk_ite ?_ ?_; (focus omega)) | (refine okk_ifn ?_ ?_; (focus omega)))))
    all_goals (simp only [go_sem, ↓reduceIte, Nat.reduceEqDiff, reduceCtorEq, Nat.reduceAdd]; refine hK0 _ ?_; clear hK0 K0)
    refine awp_ret ?_
    simp only [go_sem, ↓reduceIte, Nat.reduceEqDiff, reduceCtorEq, Nat.reduceAdd, Res, hv]
end Down
end Go.Proofs

namespace Go.Proofs
open Go.Abs Go.NatMath
set_option linter.unusedVariables false
set_option linter.unusedSimpArgs false

theorem split3 {L : List Int} {off len : Nat} (h : off + len ≤ L.length) : ∃ X A Z, L = X ++ A ++ Z ∧ X.length = off ∧ A.length = len ∧ (L.drop off).take len = A ∧ L.take off = X ∧ L.drop (off + len) = Z := by
  refine ⟨L.take off, (L.drop off).take len, L.drop (off + len), ?_, by simp; omega, by simp; omega, rfl, rfl, rfl⟩
  rw [← List.drop_drop, List.append_assoc, List.take_append_drop, List.take_append_drop]

/-! ### nat.less -/
def fLess : List AV → List Int → Option (AV × List Int)
  | [x, .val (.int .u64 q)], A => (decK 0 x).bind fun C => if okLb A = true ∧ A.length = C.length + 1 ∧ 0 ≤ q ∧ q < 4294967296 then
      some (.val (.bool (decide (iv A < q * iv C))), lim A.length ((iv A - q * iv C) % W A.length).toNat) else none
  | _, _ => none
def spLess : List AV → Hp → Option (AV × Hp) := spInpl .u32 fLess
attribute [go_sem] spLess fLess
theorem okLb_ok {L : List Int} (h : okL L) : okLb L = true := (okLb_iff L).2 h
attribute [go_sem] okLb_ok
theorem fLess_some {rest : List AV} {A : List Int} {p : AV × List Int} (h : fLess rest A = some p) : ∃ (C : List Int) (q : Int), rest = [.lst (ints .u32 C), .val (.int .u64 q)] ∧ okL C ∧ C.length ≤ 35184372088831 ∧ okL A ∧ A.length = C.length + 1 ∧ 0 ≤ q ∧ q < 4294967296 ∧
    p = (.val (.bool (decide (iv A < q * iv C))), lim A.length ((iv A - q * iv C) % W A.length).toNat) := by
  unfold fLess at h
  split at h
  · obtain ⟨C, h1, h2⟩ := Option.bind_eq_some_iff.1 h
    obtain ⟨rfl, g2, g3⟩ := decK_some h1
    split at h2
    · rename_i hc
      cases h2
      exact ⟨C, _, rfl, g2, g3, (okLb_iff _).1 hc.1, hc.2.1, hc.2.2.1, hc.2.2.2, rfl⟩
    · cases h2
  · cases h
/-- The end: what is borrowed tells whether it was too much. -/
theorem less_end {A C R : List Int} {q w : Int} (hR : okL R) (hl : R.length = A.length) (hw : w = 0 ∨ w = 1) (h : iv R - W A.length * w = iv A - q * iv C) :
    R = lim A.length ((iv A - q * iv C) % W A.length).toNat ∧ (decide (w > 0) = decide (iv A < q * iv C)) := by
  have h1 := iv_nonneg R
  have h2 := iv_lt hR
  rw [hl] at h2
  have h3 := W_pos A.length
  rcases hw with rfl | rfl
  · rw [Int.mul_zero, Int.sub_zero] at h
    refine ⟨eq_lim hR hl ?_, ?_⟩
    · rw [← h, Int.emod_eq_of_lt h1 h2]; unfold iv; omega
    · rw [decide_eq_decide]; omega
  · rw [Int.mul_one] at h
    refine ⟨eq_lim hR hl ?_, ?_⟩
    · rw [← h, Int.sub_emod_right, Int.emod_eq_of_lt h1 h2]; unfold iv; omega
    · rw [decide_eq_decide]; omega
namespace Less
def Γ : FuncId → Abs.Spec
  | 60 => .pure spSub32
  | _ => .none
theorem ΓOK : ∀ f, SpecOK Try.prog f (Γ f) := by
  intro f
  unfold Γ
  split
  · exact ⟨⟨_, Try.func60, by decide +kernel, rfl⟩, Sub32.ok⟩
  · trivial
attribute [local go_sem] Γ
theorem ok : InplOK Try.prog 61 spLess := by
  refine inpl_of_awp (n := 60) [6] Try.func61 rfl rfl rfl ?_
  intro M0 w0 e hdr rest off len L S r hol hsp hS hr
  obtain ⟨X, A, Z, rfl, hX, hAl, hd1, hd2, hd3⟩ := split3 hol
  rw [hd1] at hsp
  rw [hd2, hd3]
  obtain ⟨C, q, rfl, hC, hCl, hA, hAC, hq0, hq1, hp⟩ := fLess_some hsp
  simp only [Prod.mk.injEq] at hp
  obtain ⟨rfl, rfl⟩ := hp
  clear hsp hd1 hd2 hd3 hS hr
  have hlen : len = C.length + 1 := by omega
  refine ⟨by simp, ?_⟩
  refine awp_seq_k fun K0 hK0 => ?_
  refine awp_region (Θ := Θ) (Γ := Γ) [0, 1, 2] ΘOK ΓOK rfl ?_
  repeat' (first
    | (with_reducible refine arun_nil ?_)
    | ((with_reducible apply arun_any); (focus exact rfl); (focus (simp (disch := first | assumption | (with_reducible exact okL_limbs _) | omega) only [go_sem, ↓reduceIte, Nat.reduceEqDiff, reduceCtorEq, Nat.reduceAdd]; with_reducible exact rfl)); with_reducible (first | refine okk_some ?_ | (refine okk_ite ?_ ?_; (focus omega)) | (refine okk_ifn ?_ ?_; (focus omega)))))
  all_goals (simp only [go_sem, ↓reduceIte, Nat.reduceEqDiff, reduceCtorEq, Nat.reduceAdd]; refine hK0 _ ?_; clear hK0 K0)
  refine awp_seq_k fun K0 hK0 => ?_
  refine awp_region (Θ := Θ) (Γ := Γ) [0, 1, 2, 7, 8] ΘOK ΓOK rfl ?_
  repeat' (first
    | (with_reducible refine arun_nil ?_)
    | ((with_reducible apply arun_any); (focus exact rfl); (focus (simp (disch := first | assumption | (with_reducible exact okL_limbs _) | omega) only [go_sem, ↓reduceIte, Nat.reduceEqDiff, reduceCtorEq, Nat.reduceAdd]; with_reducible exact rfl)); with_reducible (first | refine okk_some ?_ | (refine okk_ite ?_ ?_; (focus omega)) | (refine okk_ifn ?_ ?_; (focus omega)))))
  all_goals (simp only [go_sem, ↓reduceIte, Nat.reduceEqDiff, reduceCtorEq, Nat.reduceAdd]; refine hK0 _ ?_; clear hK0 K0)
  refine awp_seq_k fun K0 hK0 => ?_
  refine awp_seq_k fun K1 hK1 => ?_
  refine awp_region (Θ := Θ) (Γ := Γ) [0, 1, 2, 7, 8, 12, 13, 14] ΘOK ΓOK rfl ?_
  repeat' (first
    | (with_reducible refine arun_nil ?_)
    | ((with_reducible apply arun_any); (focus exact rfl); (focus (simp (disch := first | assumption | (with_reducible exact okL_limbs _) | omega) only [go_sem, ↓reduceIte, Nat.reduceEqDiff, reduceCtorEq, Nat.reduceAdd]; with_reducible exact rfl)); with_reducible (first | refine okk_some ?_ | (refine okk_ite ?_ ?_; (focus omega)) | (refine okk_ifn ?_ ?_; (focus omega)))))
  all_goals (simp only [go_sem, ↓reduceIte, Nat.reduceEqDiff, reduceCtorEq, Nat.reduceAdd]; refine hK1 _ ?_; clear hK1 K1)
  refine awp_block ?_   -- 0
  refine awp_loop_st (ι := Nat × List Int × Int × Int) (fun p => [(0, .ref 1000 off len), (1, .lst (ints .u32 C)), (2, vInt .u64 q), (7, vInt .u64 p.2.2.1), (8, vInt .u32 p.2.2.2), (12, .lst (ints .u32 C)), (13, vInt .i64 C.length), (14, vInt .i64 p.1)]) (fun p => [(1000, ⟨e, 1, ints .u32 (X ++ p.2.1 ++ Z), hdr⟩)]) (fun p => C.length - p.1)
    (fun p => p.1 ≤ C.length ∧ okL p.2.1 ∧ p.2.1.length = A.length ∧ (0 ≤ p.2.2.1 ∧ p.2.2.1 < 4294967296) ∧ (p.2.2.2 = 0 ∨ p.2.2.2 = 1) ∧ iv (p.2.1.take p.1) - W p.1 * (p.2.2.1 + p.2.2.2) = iv (A.take p.1) - q * iv (C.take p.1) ∧ ∀ k, p.1 ≤ k → p.2.1.getD k 0 = A.getD k 0) (0, A, 0, 0)
    ⟨by simp, hA, rfl, by simp, .inl rfl, by simp [iv_nil], fun k _ => rfl⟩ (by simp [agree_cons, agree_nil, slook_cons, vInt]) (by simp) ?_
  rintro ⟨i, R, c, w⟩ ⟨h1, h2, h3, h4, h5, h6, h7⟩
  simp only at h1 h2 h3 h4 h5 h6 h7 ⊢
  have hlt : (X ++ R ++ Z).length = X.length + R.length + Z.length := by simp; omega
  refine awp_seq_k fun K1 hK1 => ?_
  refine awp_region (Θ := Θ) (Γ := Γ) [0, 1, 2, 7, 8, 12, 13, 14, 15] ΘOK ΓOK rfl ?_
  repeat' (first
    | (with_reducible refine arun_nil ?_)
    | ((with_reducible apply arun_any); (focus exact rfl); (focus (simp (disch := first | assumption | (with_reducible exact okL_limbs _) | omega) only [go_sem, ↓reduceIte, Nat.reduceEqDiff, reduceCtorEq, Nat.reduceAdd]; with_reducible exact rfl)); with_reducible (first | refine okk_some ?_ | (refine okk_ite ?_ ?_; (focus omega)) | (refine okk_ifn ?_ ?_; (focus omega)))))
  all_goals (simp only [go_sem, ↓reduceIte, Nat.reduceEqDiff, reduceCtorEq, Nat.reduceAdd]; refine hK1 _ ?_; clear hK1 K1)
  refine awp_seq_k fun K1 hK1 => ?_
  apply awp_cond
  (focus (simp only [go_sem, ↓reduceIte, Nat.reduceEqDiff, reduceCtorEq, Nat.reduceAdd]; exact rfl))
  all_goals intro hc
  ·
    have hi : i < C.length := by simpa using hc
    clear hc
    refine awp_skip ?_
    refine hK1 _ ?_; clear hK1 K1
    have hgm := getD_mid (A := X) (R := R) (Z := Z) (off := off) (i := i) hX (by omega)
    have hsm := set_mid (A := X) (R := R) (Z := Z) (off := off) (i := i) hX (by omega)
    have hra := h7 i (Nat.le_refl _)
    rw [hra] at hgm
    have hx := okL_get hA i
    have hy := okL_get hC i
    have hst := fun t d w2 => less_step hA hC h2 (i := i) (q := q) (c := c) (w := w) (t := t) (d := d) (w2 := w2) (by omega) hra h6
    have hyq := mul_bound hy ⟨hq0, hq1⟩
    generalize hxe : A.getD i 0 = x at *
    generalize hye : C.getD i 0 = y at *
    refine awp_seq_k fun K1 hK1 => ?_
    refine awp_block ?_   -- 1
    refine awp_seq_k fun K2 hK2 => ?_
    refine awp_region (Θ := Θ) (Γ := Γ) [0, 1, 2, 7, 8, 9, 10, 12, 13, 14] ΘOK ΓOK rfl ?_
    repeat' (first
      | (with_reducible refine arun_nil ?_)
      | ((with_reducible apply arun_any); (focus exact rfl); (focus (simp (disch := first | assumption | (with_reducible exact okL_limbs _) | omega) only [go_sem, ↓reduceIte, Nat.reduceEqDiff, reduceCtorEq, Nat.reduceAdd, hye]; with_reducible exact rfl)); with_reducible (first | refine okk_some ?_ | (refine okk_ite ?_ ?_; (focus omega)) | (refine okk_ifn ?_ ?_; (focus omega)))))
    all_goals (simp only [go_sem, ↓reduceIte, Nat.reduceEqDiff, reduceCtorEq, Nat.reduceAdd]; refine hK2 _ ?_; clear hK2 K2)
    have hm := hst (c + y * q)
    clear hst
    generalize hme : y * q = m at *
    refine awp_seq_k fun K2 hK2 => ?_
    refine awp_region (Θ := Θ) (Γ := Γ) [0, 1, 2, 7, 8, 9, 12, 13, 14] ΘOK ΓOK rfl ?_
    repeat' (first
      | (with_reducible refine arun_nil ?_)
      | ((with_reducible apply arun_any); (focus exact rfl); (focus (simp (disch := first | assumption | (with_reducible exact okL_limbs _) | omega) only [go_sem, ↓reduceIte, Nat.reduceEqDiff, reduceCtorEq, Nat.reduceAdd, hme]; with_reducible exact rfl)); with_reducible (first | refine okk_some ?_ | (refine okk_ite ?_ ?_; (focus omega)) | (refine okk_ifn ?_ ?_; (focus omega)))))
    all_goals (simp only [go_sem, ↓reduceIte, Nat.reduceEqDiff, reduceCtorEq, Nat.reduceAdd]; refine hK2 _ ?_; clear hK2 K2)
    have hm := fun d w2 => hm d w2 rfl
    have ht0 : 0 ≤ c + m ∧ c + m < 18446744073709551616 := by omega
    generalize c + m = t at *
    have hil : off + i < (X ++ R ++ Z).length := by omega
    refine awp_seq_k fun K2 hK2 => ?_
    refine awp_region (Θ := Θ) (Γ := Γ) [0, 1, 2, 7, 8, 12, 13, 14] ΘOK ΓOK rfl ?_
    repeat' (first
      | (with_reducible refine arun_nil ?_)
      | ((with_reducible apply arun_any); (focus exact rfl); (focus (simp (disch := first | assumption | (with_reducible exact okL_limbs _) | omega) only [go_sem, ↓reduceIte, Nat.reduceEqDiff, reduceCtorEq, Nat.reduceAdd, hgm, hsm]; with_reducible exact rfl)); with_reducible (first | refine okk_some ?_ | (refine okk_ite ?_ ?_; (focus omega)) | (refine okk_ifn ?_ ?_; (focus omega)))))
    all_goals (simp only [go_sem, ↓reduceIte, Nat.reduceEqDiff, reduceCtorEq, Nat.reduceAdd]; refine hK2 _ ?_; clear hK2 K2)
    have hw2 : (if x < t % 4294967296 + w then (1 : Int) else 0) = 0 ∨ (if x < t % 4294967296 + w then (1 : Int) else 0) = 1 := by split <;> simp
    have hm2 := hm ((x - t % 4294967296 - w) % 4294967296) (if x < t % 4294967296 + w then 1 else 0) (by split <;> omega) (by omega)
    generalize (if x < t % 4294967296 + w then (1 : Int) else 0) = w2 at *
    have hd0 : 0 ≤ (x - t % 4294967296 - w) % 4294967296 ∧ (x - t % 4294967296 - w) % 4294967296 < 4294967296 := by omega
    generalize (x - t % 4294967296 - w) % 4294967296 = d at *
    refine awp_region (Θ := Θ) (Γ := Γ) [0, 1, 2, 7, 8, 12, 13, 14] ΘOK ΓOK rfl ?_
    repeat' (first
      | (with_reducible refine arun_nil ?_)
      | ((with_reducible apply arun_any); (focus exact rfl); (focus (simp (disch := first | assumption | (with_reducible exact okL_limbs _) | omega) only [go_sem, ↓reduceIte, Nat.reduceEqDiff, reduceCtorEq, Nat.reduceAdd, hgm, hsm]; with_reducible exact rfl)); with_reducible (first | refine okk_some ?_ | (refine okk_ite ?_ ?_; (focus omega)) | (refine okk_ifn ?_ ?_; (focus omega)))))
    all_goals (simp only [go_sem, ↓reduceIte, Nat.reduceEqDiff, reduceCtorEq, Nat.reduceAdd])
    refine hK1 _ ?_; clear hK1 K1
    refine awp_region (Θ := Θ) (Γ := Γ) [0, 1, 2, 7, 8, 12, 13, 14] ΘOK ΓOK rfl ?_
    repeat' (first
      | (with_reducible refine arun_nil ?_)
      | ((with_reducible apply arun_any); (focus exact rfl); (focus (simp (disch := first | assumption | (with_reducible exact okL_limbs _) | omega) only [go_sem, ↓reduceIte, Nat.reduceEqDiff, reduceCtorEq, Nat.reduceAdd, hgm, hsm]; with_reducible exact rfl)); with_reducible (first | refine okk_some ?_ | (refine okk_ite ?_ ?_; (focus omega)) | (refine okk_ifn ?_ ?_; (focus omega)))))
    all_goals (simp only [go_sem, ↓reduceIte, Nat.reduceEqDiff, reduceCtorEq, Nat.reduceAdd])
    refine ⟨(i + 1, R.set i d, t / 4294967296, w2), ⟨by simp only; omega, okL_set h2 _ hd0, by simpa using h3, by simp only; omega, hw2, hm2, fun k hk => ?_⟩, ?_, rfl, by simp only; omega⟩
    ·
      simp only at hk ⊢
      rw [getD_set, if_neg (by omega)]
      exact h7 k (by omega)
    ·
      first | (simp [agree_cons, agree_nil, slook_cons, vInt]; done) | (simp [agree_cons, agree_nil, slook_cons, vInt]; omega) | (simp [agree_cons, agree_nil, slook_cons, vInt]; grind)
  ·
    have hi : i = C.length := by simp at hc; omega
    subst hi
    clear hc
    have hgm := getD_mid (A := X) (R := R) (Z := Z) (off := off) (i := C.length) hX (by omega)
    have hsm := set_mid (A := X) (R := R) (Z := Z) (off := off) (i := C.length) hX (by omega)
    have hra := h7 C.length (Nat.le_refl _)
    rw [hra] at hgm
    have hx := okL_get hA C.length
    have hst := fun d w2 => less_step hA hC h2 (i := C.length) (q := q) (c := c) (w := w) (t := c) (d := d) (w2 := w2) (by omega) hra h6 (by rw [getD_ge C (Nat.le_refl _)]; omega)
    generalize hxe : A.getD C.length 0 = x at *
    have hil : off + C.length < (X ++ R ++ Z).length := by omega
    refine awp_exit ?_   -- exit 0
    simp only [Nat.reduceEqDiff, ↓reduceIte]
    refine hK0 _ ?_; clear hK0 K0 hK1 K1
    refine awp_seq_k fun K0 hK0 => ?_
    refine awp_region (Θ := Θ) (Γ := Γ) [0, 7, 8, 11] ΘOK ΓOK rfl ?_
    repeat' (first
      | (with_reducible refine arun_nil ?_)
      | ((with_reducible apply arun_any); (focus exact rfl); (focus (simp (disch := first | assumption | (with_reducible exact okL_limbs _) | omega) only [go_sem, ↓reduceIte, Nat.reduceEqDiff, reduceCtorEq, Nat.reduceAdd]; with_reducible exact rfl)); with_reducible (first | refine okk_some ?_ | (refine okk_ite ?_ ?_; (focus omega)) | (refine okk_ifn ?_ ?_; (focus omega)))))
    all_goals (simp only [go_sem, ↓reduceIte, Nat.reduceEqDiff, reduceCtorEq, Nat.reduceAdd]; refine hK0 _ ?_; clear hK0 K0)
    refine awp_seq_k fun K0 hK0 => ?_
    refine awp_region (Θ := Θ) (Γ := Γ) [8] ΘOK ΓOK rfl ?_
    repeat' (first
      | (with_reducible refine arun_nil ?_)
      | ((with_reducible apply arun_any); (focus exact rfl); (focus (simp (disch := first | assumption | (with_reducible exact okL_limbs _) | omega) only [go_sem, ↓reduceIte, Nat.reduceEqDiff, reduceCtorEq, Nat.reduceAdd, hgm, hsm]; with_reducible exact rfl)); with_reducible (first | refine okk_some ?_ | (refine okk_ite ?_ ?_; (focus omega)) | (refine okk_ifn ?_ ?_; (focus omega)))))
    all_goals (simp only [go_sem, ↓reduceIte, Nat.reduceEqDiff, reduceCtorEq, Nat.reduceAdd]; refine hK0 _ ?_; clear hK0 K0)
    have hw2 : (if x < c % 4294967296 + w then (1 : Int) else 0) = 0 ∨ (if x < c % 4294967296 + w then (1 : Int) else 0) = 1 := by split <;> simp
    have hm2 := hst ((x - c % 4294967296 - w) % 4294967296) (if x < c % 4294967296 + w then 1 else 0) (by split <;> omega) (by omega)
    generalize (if x < c % 4294967296 + w then (1 : Int) else 0) = w2 at *
    have hd0 : 0 ≤ (x - c % 4294967296 - w) % 4294967296 ∧ (x - c % 4294967296 - w) % 4294967296 < 4294967296 := by omega
    generalize (x - c % 4294967296 - w) % 4294967296 = d at *
    rw [show c / 4294967296 = 0 by omega, Int.zero_add, iv_take_ge (by simp; omega), iv_take_ge (by omega), iv_take_ge (by omega), ← hAC] at hm2
    obtain ⟨e1, e2⟩ := less_end (okL_set h2 C.length hd0) (by simpa using h3) hw2 hm2
    refine awp_seq_k fun K0 hK0 => ?_
    refine awp_region (Θ := Θ) (Γ := Γ) [6] ΘOK ΓOK rfl ?_
    repeat' (first
      | (with_reducible refine arun_nil ?_)
      | ((with_reducible apply arun_any); (focus exact rfl); (focus (simp (disch := first | assumption | (with_reducible exact okL_limbs _) | omega) only [go_sem, ↓reduceIte, Nat.reduceEqDiff, reduceCtorEq, Nat.reduceAdd]; with_reducible exact rfl)); with_reducible (first | refine okk_some ?_ | (refine okk_ite ?_ ?_; (focus omega)) | (refine okk_ifn ?_ ?_; (focus omega)))))
    all_goals (simp only [go_sem, ↓reduceIte, Nat.reduceEqDiff, reduceCtorEq, Nat.reduceAdd]; refine hK0 _ ?_; clear hK0 K0)
    refine awp_ret ?_
    simp only [go_sem, ↓reduceIte, Nat.reduceEqDiff, reduceCtorEq, Nat.reduceAdd, Res, e2]
    rw [e1]
end Less

/-! ### nat.back -/
def fBack : List AV → List Int → Option (AV × List Int)
  | [x], A => (decK 0 x).bind fun C => if okLb A = true ∧ A.length = C.length + 1 then some (.tup [], lim A.length ((iv A + iv C) % W A.length).toNat) else none
  | _, _ => none
def spBack : List AV → Hp → Option (AV × Hp) := spInpl .u32 fBack
attribute [go_sem] spBack fBack
theorem fBack_some {rest : List AV} {A : List Int} {p : AV × List Int} (h : fBack rest A = some p) : ∃ (C : List Int), rest = [.lst (ints .u32 C)] ∧ okL C ∧ C.length ≤ 35184372088831 ∧ okL A ∧ A.length = C.length + 1 ∧ p = (.tup [], lim A.length ((iv A + iv C) % W A.length).toNat) := by
  unfold fBack at h
  split at h
  · obtain ⟨C, h1, h2⟩ := Option.bind_eq_some_iff.1 h
    obtain ⟨rfl, g2, g3⟩ := decK_some h1
    split at h2
    · rename_i hc
      cases h2
      exact ⟨C, rfl, g2, g3, (okLb_iff _).1 hc.1, hc.2, rfl⟩
    · cases h2
  · cases h
theorem back_end {A C R : List Int} {c : Int} (hR : okL R) (hl : R.length = A.length) (h : iv R + W A.length * c = iv A + iv C) : R = lim A.length ((iv A + iv C) % W A.length).toNat := by
  have h1 := iv_nonneg R
  have h2 := iv_lt hR
  rw [hl] at h2
  refine eq_lim hR hl ?_
  rw [← h, Int.add_mul_emod_self_left, Int.emod_eq_of_lt h1 h2]
  unfold iv; omega
namespace Back
def Γ : FuncId → Abs.Spec
  | 64 => .pure spAdd32
  | _ => .none
theorem ΓOK : ∀ f, SpecOK Try.prog f (Γ f) := by
  intro f
  unfold Γ
  split
  · exact ⟨⟨_, Try.func64, by decide +kernel, rfl⟩, Add32.ok⟩
  · trivial
attribute [local go_sem] Γ
theorem ok : InplOK Try.prog 62 spBack := by
  refine inpl_of_awp (n := 36) [] Try.func62 rfl rfl rfl ?_
  intro M0 w0 e hdr rest off len L S r hol hsp hS hr
  obtain ⟨X, A, Z, rfl, hX, hAl, hd1, hd2, hd3⟩ := split3 hol
  rw [hd1] at hsp
  rw [hd2, hd3]
  obtain ⟨C, rfl, hC, hCl, hA, hAC, hp⟩ := fBack_some hsp
  simp only [Prod.mk.injEq] at hp
  obtain ⟨rfl, rfl⟩ := hp
  clear hsp hd1 hd2 hd3 hS hr
  have hlen : len = C.length + 1 := by omega
  refine ⟨by simp, ?_⟩
  refine awp_seq_k fun K0 hK0 => ?_
  refine awp_region (Θ := Θ) (Γ := Γ) [0, 1, 4] ΘOK ΓOK rfl ?_
  repeat' (first
    | (with_reducible refine arun_nil ?_)
    | ((with_reducible apply arun_any); (focus exact rfl); (focus (simp (disch := first | assumption | (with_reducible exact okL_limbs _) | omega) only [go_sem, ↓reduceIte, Nat.reduceEqDiff, reduceCtorEq, Nat.reduceAdd]; with_reducible exact rfl)); with_reducible (first | refine okk_some ?_ | (refine okk_ite ?_ ?_; (focus omega)) | (refine okk_ifn ?_ ?_; (focus omega)))))
  all_goals (simp only [go_sem, ↓reduceIte, Nat.reduceEqDiff, reduceCtorEq, Nat.reduceAdd]; refine hK0 _ ?_; clear hK0 K0)
  refine awp_seq_k fun K0 hK0 => ?_
  refine awp_seq_k fun K1 hK1 => ?_
  refine awp_region (Θ := Θ) (Γ := Γ) [0, 1, 4, 7, 8, 9] ΘOK ΓOK rfl ?_
  repeat' (first
    | (with_reducible refine arun_nil ?_)
    | ((with_reducible apply arun_any); (focus exact rfl); (focus (simp (disch := first | assumption | (with_reducible exact okL_limbs _) | omega) only [go_sem, ↓reduceIte, Nat.reduceEqDiff, reduceCtorEq, Nat.reduceAdd]; with_reducible exact rfl)); with_reducible (first | refine okk_some ?_ | (refine okk_ite ?_ ?_; (focus omega)) | (refine okk_ifn ?_ ?_; (focus omega)))))
  all_goals (simp only [go_sem, ↓reduceIte, Nat.reduceEqDiff, reduceCtorEq, Nat.reduceAdd]; refine hK1 _ ?_; clear hK1 K1)
  refine awp_block ?_   -- 0
  refine awp_loop_st (ι := Nat × List Int × Int) (fun p => [(0, .ref 1000 off len), (1, .lst (ints .u32 C)), (4, vInt .u32 p.2.2), (7, .lst (ints .u32 C)), (8, vInt .i64 C.length), (9, vInt .i64 p.1)]) (fun p => [(1000, ⟨e, 1, ints .u32 (X ++ p.2.1 ++ Z), hdr⟩)]) (fun p => C.length - p.1)
    (fun p => p.1 ≤ C.length ∧ okL p.2.1 ∧ p.2.1.length = A.length ∧ (0 ≤ p.2.2 ∧ p.2.2 ≤ 1) ∧ iv (p.2.1.take p.1) + W p.1 * p.2.2 = iv (A.take p.1) + iv (C.take p.1) ∧ ∀ k, p.1 ≤ k → p.2.1.getD k 0 = A.getD k 0) (0, A, 0)
    ⟨by simp, hA, rfl, by simp, by simp [iv_nil], fun k _ => rfl⟩ (by simp [agree_cons, agree_nil, slook_cons, vInt]) (by simp) ?_
  rintro ⟨i, R, c⟩ ⟨h1, h2, h3, h4, h6, h7⟩
  simp only at h1 h2 h3 h4 h6 h7 ⊢
  have hlt : (X ++ R ++ Z).length = X.length + R.length + Z.length := by simp; omega
  refine awp_seq_k fun K1 hK1 => ?_
  refine awp_region (Θ := Θ) (Γ := Γ) [0, 1, 4, 7, 8, 9, 10] ΘOK ΓOK rfl ?_
  repeat' (first
    | (with_reducible refine arun_nil ?_)
    | ((with_reducible apply arun_any); (focus exact rfl); (focus (simp (disch := first | assumption | (with_reducible exact okL_limbs _) | omega) only [go_sem, ↓reduceIte, Nat.reduceEqDiff, reduceCtorEq, Nat.reduceAdd]; with_reducible exact rfl)); with_reducible (first | refine okk_some ?_ | (refine okk_ite ?_ ?_; (focus omega)) | (refine okk_ifn ?_ ?_; (focus omega)))))
  all_goals (simp only [go_sem, ↓reduceIte, Nat.reduceEqDiff, reduceCtorEq, Nat.reduceAdd]; refine hK1 _ ?_; clear hK1 K1)
  refine awp_seq_k fun K1 hK1 => ?_
  apply awp_cond
  (focus (simp only [go_sem, ↓reduceIte, Nat.reduceEqDiff, reduceCtorEq, Nat.reduceAdd]; exact rfl))
  all_goals intro hc
  ·
    have hi : i < C.length := by simpa using hc
    clear hc
    refine awp_skip ?_
    refine hK1 _ ?_; clear hK1 K1
    have hgm := getD_mid (A := X) (R := R) (Z := Z) (off := off) (i := i) hX (by omega)
    have hsm := set_mid (A := X) (R := R) (Z := Z) (off := off) (i := i) hX (by omega)
    have hra := h7 i (Nat.le_refl _)
    rw [hra] at hgm
    have hx := okL_get hA i
    have hy := okL_get hC i
    have hst := back_step hA hC h2 (i := i) (c := c) (by omega) hra h6 rfl
    generalize hxe : A.getD i 0 = x at *
    generalize hye : C.getD i 0 = y at *
    have hil : off + i < (X ++ R ++ Z).length := by omega
    refine awp_seq_k fun K1 hK1 => ?_
    refine awp_block ?_   -- 1
    refine awp_seq_k fun K2 hK2 => ?_
    refine awp_region (Θ := Θ) (Γ := Γ) [0, 1, 4, 5, 6, 7, 8, 9] ΘOK ΓOK rfl ?_
    repeat' (first
      | (with_reducible refine arun_nil ?_)
      | ((with_reducible apply arun_any); (focus exact rfl); (focus (simp (disch := first | assumption | (with_reducible exact okL_limbs _) | omega) only [go_sem, ↓reduceIte, Nat.reduceEqDiff, reduceCtorEq, Nat.reduceAdd, hye]; with_reducible exact rfl)); with_reducible (first | refine okk_some ?_ | (refine okk_ite ?_ ?_; (focus omega)) | (refine okk_ifn ?_ ?_; (focus omega)))))
    all_goals (simp only [go_sem, ↓reduceIte, Nat.reduceEqDiff, reduceCtorEq, Nat.reduceAdd]; refine hK2 _ ?_; clear hK2 K2)
    refine awp_region (Θ := Θ) (Γ := Γ) [0, 1, 4, 7, 8, 9] ΘOK ΓOK rfl ?_
    repeat' (first
      | (with_reducible refine arun_nil ?_)
      | ((with_reducible apply arun_any); (focus exact rfl); (focus (simp (disch := first | assumption | (with_reducible exact okL_limbs _) | omega) only [go_sem, ↓reduceIte, Nat.reduceEqDiff, reduceCtorEq, Nat.reduceAdd, hgm, hsm]; with_reducible exact rfl)); with_reducible (first | refine okk_some ?_ | (refine okk_ite ?_ ?_; (focus omega)) | (refine okk_ifn ?_ ?_; (focus omega)))))
    all_goals (simp only [go_sem, ↓reduceIte, Nat.reduceEqDiff, reduceCtorEq, Nat.reduceAdd])
    refine hK1 _ ?_; clear hK1 K1
    refine awp_region (Θ := Θ) (Γ := Γ) [0, 1, 4, 7, 8, 9] ΘOK ΓOK rfl ?_
    repeat' (first
      | (with_reducible refine arun_nil ?_)
      | ((with_reducible apply arun_any); (focus exact rfl); (focus (simp (disch := first | assumption | (with_reducible exact okL_limbs _) | omega) only [go_sem, ↓reduceIte, Nat.reduceEqDiff, reduceCtorEq, Nat.reduceAdd, hgm, hsm]; with_reducible exact rfl)); with_reducible (first | refine okk_some ?_ | (refine okk_ite ?_ ?_; (focus omega)) | (refine okk_ifn ?_ ?_; (focus omega)))))
    all_goals (simp only [go_sem, ↓reduceIte, Nat.reduceEqDiff, reduceCtorEq, Nat.reduceAdd])
    refine ⟨(i + 1, R.set i ((x + y + c) % 4294967296), (x + y + c) / 4294967296), ⟨by simp only; omega, okL_set h2 _ (by omega), by simpa using h3, by simp only; omega, hst, fun k hk => ?_⟩, ?_, rfl, by simp only; omega⟩
    ·
      simp only at hk ⊢
      rw [getD_set, if_neg (by omega)]
      exact h7 k (by omega)
    ·
      first | (simp [agree_cons, agree_nil, slook_cons, vInt]; done) | (simp [agree_cons, agree_nil, slook_cons, vInt]; omega) | (simp [agree_cons, agree_nil, slook_cons, vInt]; grind)
  ·
    have hi : i = C.length := by simp at hc; omega
    subst hi
    clear hc
    have hgm := getD_mid (A := X) (R := R) (Z := Z) (off := off) (i := C.length) hX (by omega)
    have hsm := set_mid (A := X) (R := R) (Z := Z) (off := off) (i := C.length) hX (by omega)
    have hra := h7 C.length (Nat.le_refl _)
    rw [hra] at hgm
    have hx := okL_get hA C.length
    have hst := back_step hA hC h2 (i := C.length) (c := c) (s := A.getD C.length 0 + c) (by omega) hra h6 (by rw [getD_ge C (Nat.le_refl _)]; omega)
    generalize hxe : A.getD C.length 0 = x at *
    have hil : off + C.length < (X ++ R ++ Z).length := by omega
    refine awp_exit ?_   -- exit 0
    simp only [Nat.reduceEqDiff, ↓reduceIte]
    refine hK0 _ ?_; clear hK0 K0 hK1 K1
    rw [iv_take_ge (by simp; omega), iv_take_ge (by omega), iv_take_ge (by omega), ← hAC] at hst
    have e1 := back_end (okL_set h2 C.length (by omega)) (by simpa using h3) hst
    refine awp_region (Θ := Θ) (Γ := Γ) [] ΘOK ΓOK rfl ?_
    repeat' (first
      | (with_reducible refine arun_nil ?_)
      | ((with_reducible apply arun_any); (focus exact rfl); (focus (simp (disch := first | assumption | (with_reducible exact okL_limbs _) | omega) only [go_sem, ↓reduceIte, Nat.reduceEqDiff, reduceCtorEq, Nat.reduceAdd, hgm, hsm]; with_reducible exact rfl)); with_reducible (first | refine okk_some ?_ | (refine okk_ite ?_ ?_; (focus omega)) | (refine okk_ifn ?_ ?_; (focus omega)))))
    all_goals (simp only [go_sem, ↓reduceIte, Nat.reduceEqDiff, reduceCtorEq, Nat.reduceAdd])
    rw [← e1]
    exact ⟨rfl, rfl⟩
end Back
end Go.Proofs

namespace Go.Proofs
open Go.Abs Go.NatMath
set_option linter.unusedVariables false
set_option linter.unusedSimpArgs false

/-! ### nat.long -/
attribute [go_sem] lim_length
def spLong : List AV → Option AV := sp2 1 fun L M => if limbs (nv L) = L ∧ limbs (nv M) = M ∧ 2 ≤ M.length ∧ nv M ≤ nv L then some (.tup [U (nv L / nv M), U (nv L % nv M)]) else none
attribute [go_sem] spLong
theorem bl_ge {n : Nat} (h : n ≠ 0) : 1 ≤ bl n ∧ 2 ^ (bl n - 1) ≤ n := by
  have hb : 1 ≤ bl n := by rw [bl_pos h]; omega
  refine ⟨hb, ?_⟩
  rcases Nat.lt_or_ge n (2 ^ (bl n - 1)) with h1 | h1
  · have := bl_le h1; omega
  · exact h1
theorem limbs_top {b m : Nat} (h : (limbs b).length = m + 1) : 1 ≤ (limbs b).getD m 0 := by
  have hne : limbs b ≠ [] := fun e => by rw [e] at h; simp at h
  have h1 := limbs_last hne
  rw [List.getLast_eq_getElem] at h1
  have h2 := okL_get (okL_limbs b) m
  have h3 : (limbs b)[(limbs b).length - 1]'(by omega) = (limbs b).getD m 0 := by
    rw [List.getD_eq_getElem?_getD, List.getElem?_eq_getElem (by omega), Option.getD_some]
    congr 1; omega
  rw [h3] at h1
  omega
/-- The divisor is shifted till its top digit stands at the top of its limb. -/
theorem norm_facts {b m : Nat} (h : (limbs b).length = m + 1) : ∃ n : Nat, n < 32 ∧ 32 - (bl ((limbs b).getD m 0).toNat : Int) = (n : Int) ∧ (limbs (b * 2 ^ n)).length = m + 1 ∧ 2147483648 ≤ (limbs (b * 2 ^ n)).getD m 0 := by
  have hx := okL_get (okL_limbs b) m
  have hx1 := limbs_top h
  have hb1 := iv_take_succ (okL_limbs b) m
  rw [iv_take_ge (by omega)] at hb1
  have hl := iv_take_lt (okL_limbs b) m
  have hl0 := iv_nonneg ((limbs b).take m)
  have hbv : iv (limbs b) = (b : Int) := by unfold iv; rw [nv_limbs]
  rw [hbv] at hb1
  generalize (limbs b).getD m 0 = x at *
  obtain ⟨y, rfl⟩ := Int.eq_ofNat_of_zero_le hx.1
  rw [Int.toNat_natCast]
  obtain ⟨g1, g2⟩ := bl_ge (n := y) (by omega)
  have g3 := bl_le (n := y) (k := 32) (by omega)
  have g4 := bl_lt y
  refine ⟨32 - bl y, by omega, by omega, ?_⟩
  have hp : 2 ^ (bl y - 1) * 2 ^ (32 - bl y) = 2147483648 := by
    rw [← Nat.pow_add, show bl y - 1 + (32 - bl y) = 31 by omega]
  have hp2 : 2 ^ bl y * 2 ^ (32 - bl y) = 4294967296 := by
    rw [← Nat.pow_add, show bl y + (32 - bl y) = 32 by omega]
  have hpos : 0 < 2 ^ (32 - bl y) := Nat.pow_pos (by decide)
  generalize 2 ^ (32 - bl y) = p at *
  have k1 : 2147483648 ≤ y * p := by rw [← hp]; exact Nat.mul_le_mul_right _ g2
  have k2 : (y + 1) * p ≤ 4294967296 := by rw [← hp2]; exact Nat.mul_le_mul_right _ g4
  have hw := W_nat m
  generalize hW : B ^ m = w at *
  have hb2 : w * y ≤ b ∧ b < w * (y + 1) := by
    have e : W m * (y : Int) = ((w * y : Nat) : Int) := by rw [hw, Int.natCast_mul]
    rw [e] at hb1
    rw [Nat.mul_add]
    omega
  have v1 : w * 2147483648 ≤ b * p := Nat.le_trans (Nat.mul_le_mul_left w k1) (by rw [← Nat.mul_assoc]; exact Nat.mul_le_mul_right p hb2.1)
  have v2 : b * p < w * 4294967296 := by
    refine Nat.lt_of_lt_of_le ((Nat.mul_lt_mul_right hpos).2 hb2.2) ?_
    rw [Nat.mul_assoc]
    exact Nat.mul_le_mul_left w k2
  have hB : B ^ (m + 1) = w * 4294967296 := by rw [Nat.pow_succ, hW]; rfl
  have len1 : (limbs (b * p)).length ≤ m + 1 := limbs_length_le (by rw [hB]; exact v2)
  have hwp : 0 < w := by rw [← hW]; exact Nat.pow_pos B_pos
  have len2 : m + 1 ≤ (limbs (b * p)).length := by
    rcases Nat.lt_or_ge (limbs (b * p)).length (m + 1) with hlt | hge
    · have h1 := nv_lt (okL_limbs (b * p))
      rw [nv_limbs] at h1
      have h2 : B ^ (limbs (b * p)).length ≤ B ^ m := Nat.pow_le_pow_right B_pos (by omega)
      rw [hW] at h2
      have : w * 1 ≤ w * 2147483648 := Nat.mul_le_mul_left w (by decide)
      omega
    · exact hge
  refine ⟨by omega, ?_⟩
  have t1 := iv_take_succ (okL_limbs (b * p)) m
  rw [iv_take_ge (by omega)] at t1
  have t2 := iv_take_lt (okL_limbs (b * p)) m
  have t3 : iv (limbs (b * p)) = ((b * p : Nat) : Int) := by unfold iv; rw [nv_limbs]
  rw [t3] at t1
  generalize (limbs (b * p)).getD m 0 = t at *
  have t4 : W m * 2147483648 < W m * (t + 1) := by
    have e1 : W m * 2147483648 = ((w * 2147483648 : Nat) : Int) := by rw [hw, Int.natCast_mul]; rfl
    have e2 : W m * (t + 1) = W m * t + W m := by rw [Int.mul_add, Int.mul_one]
    rw [e1, e2]
    omega
  have := Int.lt_of_mul_lt_mul_left t4 (Int.le_of_lt (W_pos m))
  omega
theorem long_start {a b n la m : Nat} (ha : (limbs a).length = la) (hb : (limbs b).length = m + 1) (hab : b ≤ a) : m + 1 ≤ la ∧ ((a * 2 ^ n : Nat) : Int) < ((b * 2 ^ n : Nat) : Int) * W (la - m) := by
  have h1 := limbs_length_mono hab
  have h2 := nv_lt (okL_limbs a)
  have h3 := limbs_length_lb (n := b) (fun e => by subst e; rw [limbs_zero] at hb; simp at hb)
  rw [nv_limbs, ha] at h2
  rw [hb, Nat.add_sub_cancel] at h3
  refine ⟨by omega, ?_⟩
  rw [W_nat, ← Int.natCast_mul]
  refine Int.ofNat_lt.2 ?_
  have hp : 0 < 2 ^ n := Nat.pow_pos (by decide)
  generalize 2 ^ n = p at *
  have h4 : B ^ la = B ^ m * B ^ (la - m) := by rw [← Nat.pow_add]; congr 1; omega
  calc a * p < B ^ la * p := (Nat.mul_lt_mul_right hp).2 h2
    _ = B ^ m * p * B ^ (la - m) := by rw [h4, Nat.mul_right_comm]
    _ ≤ b * p * B ^ (la - m) := Nat.mul_le_mul_right _ (Nat.mul_le_mul_right _ h3)
theorem long_end {a b n : Nat} {Q R : List Int} (h : iv Q * ((b * 2 ^ n : Nat) : Int) + iv R = ((a * 2 ^ n : Nat) : Int)) (hlt : iv R < ((b * 2 ^ n : Nat) : Int)) : nv Q = a / b ∧ nv R / 2 ^ n = a % b := by
  unfold iv at h hlt
  have h1 : nv Q * (b * 2 ^ n) + nv R = a * 2 ^ n := by
    rw [← Int.natCast_mul] at h
    omega
  have h2 : nv R < b * 2 ^ n := by omega
  have hp : 0 < 2 ^ n := Nat.pow_pos (by decide)
  generalize 2 ^ n = p at *
  have hbp : 0 < b * p := Nat.lt_of_le_of_lt (Nat.zero_le _) h2
  have hb : 0 < b := Nat.pos_of_ne_zero (fun e => by subst e; simp at hbp)
  have e1 : a * p / (b * p) = nv Q := by
    rw [← h1, Nat.mul_comm (nv Q), Nat.mul_add_div hbp, Nat.div_eq_of_lt h2, Nat.add_zero]
  have e2 : a * p % (b * p) = nv R := by
    rw [← h1, Nat.mul_comm (nv Q), Nat.mul_add_mod, Nat.mod_eq_of_lt h2]
  rw [Nat.mul_div_mul_right _ _ hp] at e1
  rw [Nat.mul_mod_mul_right] at e2
  refine ⟨e1.symm, ?_⟩
  rw [← e2, Nat.mul_div_cancel _ hp]
theorem erase27 (b1 b2 : Buf) : eraseAll [27] (hlook [(24, b1), (27, b2)]) = hlook [(24, b1)] := by rw [erase_hlook]; rfl
theorem mid_facts {X S Z : List Int} {k l : Nat} (hX : X.length = k) (hS : S.length = l) : ((X ++ S ++ Z).drop k).take l = S ∧ (X ++ S ++ Z).take k = X ∧ (X ++ S ++ Z).drop (k + l) = Z := by
  subst hX hS
  refine ⟨by simp, by simp, ?_⟩
  rw [← List.length_append, List.drop_left]
end Go.Proofs
