/- Contracts of functions that the law reaches: what they compute. No condition. -/
import Derived.Test.YtjnejhlnhapogaaT6
set_option linter.unusedVariables false
set_option linter.unusedSimpArgs false
namespace Go.Proofs
open Go.Abs Go.NatMath
set_option linter.unusedVariables false
set_option linter.unusedSimpArgs false

/-! ### Of -/
def spOf : List AV → Option AV
  | [.val (.int .i64 n)] => if -9223372036854775808 ≤ n ∧ n ≤ 9223372036854775807 then some (U n.toNat) else none
  | _ => none
attribute [go_sem] spOf
theorem spOf_some {args : List AV} {r : AV} (h : spOf args = some r) : ∃ n, args = [.val (.int .i64 n)] ∧ (-9223372036854775808 ≤ n ∧ n ≤ 9223372036854775807) ∧ r = U n.toNat := by
  unfold spOf at h
  split at h
  · split at h
    · rename_i hc; cases h; exact ⟨_, rfl, hc, rfl⟩
    · cases h
  · cases h
theorem nv_two {m : Nat} (h : m < 18446744073709551616) : nv [(m : Int) % 4294967296, (m : Int) / 4294967296 % 4294967296] = m := by
  simp only [nv, B]; omega
theorem okL_two (a b : Int) : okL [a % 4294967296, b % 4294967296] := by
  intro x hx; simp at hx; rcases hx with rfl | rfl <;> omega
namespace Of
def Γ : FuncId → Abs.Spec
  | 47 => .pure spTrim
  | _ => .none
theorem ΓOK : ∀ f, SpecOK Try.prog f (Γ f) := by
  intro f
  unfold Γ
  split
  · exact ⟨⟨_, Try.func47, by decide +kernel, rfl⟩, Trim.ok⟩
  · trivial
attribute [local go_sem] Γ
theorem ok : PureOK Try.prog 39 spOf := by
  refine pure_of_awp (n := 12) [2] Try.func39 rfl rfl rfl ?_
  intro M0 w0 args r h
  obtain ⟨n, rfl, hn, rfl⟩ := spOf_some h
  clear h
  refine ⟨by simp, ?_⟩
  refine awp_seq_k fun K0 hK0 => ?_
  refine awp_region (Θ := Θ) (Γ := Γ) [0] ΘOK ΓOK rfl ?_
  repeat' (first
    | (with_reducible refine arun_nil ?_)
    | ((with_reducible apply arun_any); (focus exact rfl); (focus (simp (disch := first | assumption | (with_reducible exact okL_limbs _) | omega) only [go_sem, ↓reduceIte, Nat.reduceEqDiff, reduceCtorEq, Nat.reduceAdd]; with_reducible exact rfl)); with_reducible (first | refine okk_some ?_ | (refine okk_ite ?_ ?_; (focus omega)) | (refine okk_ifn ?_ ?_; (focus omega)))))
  all_goals (simp only [go_sem, ↓reduceIte, Nat.reduceEqDiff, reduceCtorEq, Nat.reduceAdd]; refine hK0 _ ?_; clear hK0 K0)
  refine awp_seq_k fun K0 hK0 => ?_
  have main : ∀ (m : Nat) (σ : St), m < 9223372036854775808 → n.toNat = m → agree [(0, vInt .i64 m)] σ.t → σ.h = hlook [] → K0 σ := by
    intro m σ hm hnm hag hh
    refine hK0 σ ?_
    refine awp_forget _ hag ?_
    rw [hh]
    clear hK0 K0 hag hh
    have hv := nv_two (m := m) (by omega)
    have ho := okL_two (m : Int) ((m : Int) / 4294967296)
    have hl : [(m : Int) % 4294967296, (m : Int) / 4294967296 % 4294967296].length ≤ 35184372088831 := by simp
    refine awp_seq_k fun K0 hK0 => ?_
    refine awp_region (Θ := Θ) (Γ := Γ) [2] ΘOK ΓOK rfl ?_
    repeat' (first
      | (with_reducible refine arun_nil ?_)
      | ((with_reducible apply arun_any); (focus exact rfl); (focus (simp (disch := first | assumption | (with_reducible exact okL_limbs _) | omega) only [go_sem, ↓reduceIte, Nat.reduceEqDiff, reduceCtorEq, Nat.reduceAdd]; with_reducible exact rfl)); with_reducible (first | refine okk_some ?_ | (refine okk_ite ?_ ?_; (focus omega)) | (refine okk_ifn ?_ ?_; (focus omega)))))
    all_goals (simp only [go_sem, ↓reduceIte, Nat.reduceEqDiff, reduceCtorEq, Nat.reduceAdd]; refine hK0 _ ?_; clear hK0 K0)
    refine awp_ret ?_
    simp only [go_sem, ↓reduceIte, Nat.reduceEqDiff, reduceCtorEq, Nat.reduceAdd, Res, hv, hnm]
  refine awp_seq_k fun K1 hK1 => ?_
  refine awp_region (Θ := Θ) (Γ := Γ) [0, 4] ΘOK ΓOK rfl ?_
  repeat' (first
    | (with_reducible refine arun_nil ?_)
    | ((with_reducible apply arun_any); (focus exact rfl); (focus (simp (disch := first | assumption | (with_reducible exact okL_limbs _) | omega) only [go_sem, ↓reduceIte, Nat.reduceEqDiff, reduceCtorEq, Nat.reduceAdd]; with_reducible exact rfl)); with_reducible (first | refine okk_some ?_ | (refine okk_ite ?_ ?_; (focus omega)) | (refine okk_ifn ?_ ?_; (focus omega)))))
  all_goals (simp only [go_sem, ↓reduceIte, Nat.reduceEqDiff, reduceCtorEq, Nat.reduceAdd]; refine hK1 _ ?_; clear hK1 K1)
  apply awp_cond
  (focus (simp only [go_sem, ↓reduceIte, Nat.reduceEqDiff, reduceCtorEq, Nat.reduceAdd]; exact rfl))
  all_goals intro hc
  ·
    refine awp_region (Θ := Θ) (Γ := Γ) [0] ΘOK ΓOK rfl ?_
    repeat' (first
      | (with_reducible refine arun_nil ?_)
      | ((with_reducible apply arun_any); (focus exact rfl); (focus (simp (disch := first | assumption | (with_reducible exact okL_limbs _) | omega) only [go_sem, ↓reduceIte, Nat.reduceEqDiff, reduceCtorEq, Nat.reduceAdd]; with_reducible exact rfl)); with_reducible (first | refine okk_some ?_ | (refine okk_ite ?_ ?_; (focus omega)) | (refine okk_ifn ?_ ?_; (focus omega)))))
    all_goals (simp only [go_sem, ↓reduceIte, Nat.reduceEqDiff, reduceCtorEq, Nat.reduceAdd])
    refine main 0 _ (by omega) (by simp at hc; omega) ?_ rfl
    first | (simp [agree_cons, agree_nil, slook_cons, vInt]; done) | (simp [agree_cons, agree_nil, slook_cons, vInt]; omega) | (simp [agree_cons, agree_nil, slook_cons, vInt]; grind)
  ·
    refine awp_skip ?_
    refine main n.toNat _ (by omega) rfl ?_ rfl
    simp at hc
    first | (simp [agree_cons, agree_nil, slook_cons, vInt]; done) | (simp [agree_cons, agree_nil, slook_cons, vInt]; omega) | (simp [agree_cons, agree_nil, slook_cons, vInt]; grind)
end Of
namespace ROf
def Γ : FuncId → Abs.Spec := fun _ => .none
theorem ΓOK : ∀ f, SpecOK Try.prog f (Γ f) := fun _ => trivial
theorem ok : PureOK Try.prog 40 spOf := by
  refine pure_of_awp (n := 15) [2] Try.func40 rfl rfl rfl ?_
  intro M0 w0 args r h
  obtain ⟨n, rfl, hn, rfl⟩ := spOf_some h
  clear h
  refine ⟨by simp, ?_⟩
  refine awp_seq_k fun K0 hK0 => ?_
  refine awp_region (Θ := Θ) (Γ := Γ) [0] ΘOK ΓOK rfl ?_
  repeat' (first
    | (with_reducible refine arun_nil ?_)
    | ((with_reducible apply arun_any); (focus exact rfl); (focus (simp (disch := first | assumption | (with_reducible exact okL_limbs _) | omega) only [go_sem, ↓reduceIte, Nat.reduceEqDiff, reduceCtorEq, Nat.reduceAdd]; with_reducible exact rfl)); with_reducible (first | refine okk_some ?_ | (refine okk_ite ?_ ?_; (focus omega)) | (refine okk_ifn ?_ ?_; (focus omega)))))
  all_goals (simp only [go_sem, ↓reduceIte, Nat.reduceEqDiff, reduceCtorEq, Nat.reduceAdd]; refine hK0 _ ?_; clear hK0 K0)
  refine awp_seq_k fun K0 hK0 => ?_
  refine awp_region (Θ := Θ) (Γ := Γ) [0, 3] ΘOK ΓOK rfl ?_
  repeat' (first
    | (with_reducible refine arun_nil ?_)
    | ((with_reducible apply arun_any); (focus exact rfl); (focus (simp (disch := first | assumption | (with_reducible exact okL_limbs _) | omega) only [go_sem, ↓reduceIte, Nat.reduceEqDiff, reduceCtorEq, Nat.reduceAdd]; with_reducible exact rfl)); with_reducible (first | refine okk_some ?_ | (refine okk_ite ?_ ?_; (focus omega)) | (refine okk_ifn ?_ ?_; (focus omega)))))
  all_goals (simp only [go_sem, ↓reduceIte, Nat.reduceEqDiff, reduceCtorEq, Nat.reduceAdd]; refine hK0 _ ?_; clear hK0 K0)
  refine awp_own 3 13 48 1 (by decide) rfl rfl ?_
  simp only [go_sem, ↓reduceIte, Nat.reduceEqDiff, reduceCtorEq, Nat.reduceAdd]
  refine awp_seq_k fun K0 hK0 => ?_
  refine awp_block ?_   -- 0
  have hl0 : (limbs n.toNat).length ≤ 2 := limbs_length_le (by unfold B; omega)
  refine awp_loop_st (ι := Int × List Int) (fun p => [(0, vInt .i64 p.1), (3, .own 13)]) (fun p => [(13, ⟨48, 1, ints .u32 p.2, none⟩)]) (fun p => p.1.toNat)
    (fun p => p.1 ≤ 9223372036854775807 ∧ p.2 ++ limbs p.1.toNat = limbs n.toNat) (n, [])
    ⟨hn.2, rfl⟩ (by simp [agree_cons, agree_nil, slook_cons, vInt, upd_app]) (by simp [ints]) ?_
  rintro ⟨i, O⟩ ⟨h1, h2⟩
  simp only at h1 h2 ⊢
  have hOl : O.length ≤ 2 := by
    have := congrArg List.length h2
    simp only [List.length_append] at this
    omega
  refine awp_seq_k fun K1 hK1 => ?_
  refine awp_seq_k fun K2 hK2 => ?_
  refine awp_region (Θ := Θ) (Γ := Γ) [0, 3, 5] ΘOK ΓOK rfl ?_
  repeat' (first
    | (with_reducible refine arun_nil ?_)
    | ((with_reducible apply arun_any); (focus exact rfl); (focus (simp (disch := first | assumption | (with_reducible exact okL_limbs _) | omega) only [go_sem, ↓reduceIte, Nat.reduceEqDiff, reduceCtorEq, Nat.reduceAdd]; with_reducible exact rfl)); with_reducible (first | refine okk_some ?_ | (refine okk_ite ?_ ?_; (focus omega)) | (refine okk_ifn ?_ ?_; (focus omega)))))
  all_goals (simp only [go_sem, ↓reduceIte, Nat.reduceEqDiff, reduceCtorEq, Nat.reduceAdd]; refine hK2 _ ?_; clear hK2 K2)
  apply awp_cond
  (focus (simp only [go_sem, ↓reduceIte, Nat.reduceEqDiff, reduceCtorEq, Nat.reduceAdd]; exact rfl))
  all_goals intro hc
  ·
    have hi : 0 < i := by simpa using hc
    clear hc
    refine awp_skip ?_
    refine hK1 _ ?_; clear hK1 K1
    refine awp_seq_k fun K1 hK1 => ?_
    refine awp_block ?_   -- 1
    refine awp_region (Θ := Θ) (Γ := Γ) [0, 3] ΘOK ΓOK rfl ?_
    repeat' (first
      | (with_reducible refine arun_nil ?_)
      | ((with_reducible apply arun_any); (focus exact rfl); (focus (simp (disch := first | assumption | (with_reducible exact okL_limbs _) | omega) only [go_sem, ↓reduceIte, Nat.reduceEqDiff, reduceCtorEq, Nat.reduceAdd]; with_reducible exact rfl)); with_reducible (first | refine okk_some ?_ | (refine okk_ite ?_ ?_; (focus omega)) | (refine okk_ifn ?_ ?_; (focus omega)))))
    all_goals (simp only [go_sem, ↓reduceIte, Nat.reduceEqDiff, reduceCtorEq, Nat.reduceAdd])
    refine hK1 _ ?_; clear hK1 K1
    refine awp_region (Θ := Θ) (Γ := Γ) [0, 3] ΘOK ΓOK rfl ?_
    repeat' (first
      | (with_reducible refine arun_nil ?_)
      | ((with_reducible apply arun_any); (focus exact rfl); (focus (simp (disch := first | assumption | (with_reducible exact okL_limbs _) | omega) only [go_sem, ↓reduceIte, Nat.reduceEqDiff, reduceCtorEq, Nat.reduceAdd]; with_reducible exact rfl)); with_reducible (first | refine okk_some ?_ | (refine okk_ite ?_ ?_; (focus omega)) | (refine okk_ifn ?_ ?_; (focus omega)))))
    all_goals (simp only [go_sem, ↓reduceIte, Nat.reduceEqDiff, reduceCtorEq, Nat.reduceAdd])
    obtain ⟨m, rfl⟩ := Int.eq_ofNat_of_zero_le (Int.le_of_lt hi)
    rw [Int.toNat_natCast, limbs_pos (by omega)] at h2
    refine ⟨((m : Int) / 4294967296, O ++ [(m : Int) % 4294967296]), ⟨by simp only; omega, ?_⟩, ?_, ?_, by simp only; omega⟩
    · simp only
      rw [← h2, show ((m : Int) / 4294967296).toNat = m / B by unfold B; omega, show ((m % B : Nat) : Int) = (m : Int) % 4294967296 by unfold B; omega]
      simp
    ·
      first | (simp [agree_cons, agree_nil, slook_cons, vInt]; done) | (simp [agree_cons, agree_nil, slook_cons, vInt]; omega) | (simp [agree_cons, agree_nil, slook_cons, vInt]; grind)
    · rw [show (m : Int) % 4294967296 % 4294967296 = (m : Int) % 4294967296 by omega]
  ·
    have hi : i.toNat = 0 := by simp at hc; omega
    rw [hi, limbs_zero, List.append_nil] at h2
    subst h2
    refine awp_exit ?_   -- exit 0
    simp only [Nat.reduceEqDiff, ↓reduceIte]
    refine hK0 _ ?_; clear hK0 K0 hK1 K1
    refine awp_seq_k fun K0 hK0 => ?_
    refine awp_region (Θ := Θ) (Γ := Γ) [2] ΘOK ΓOK rfl ?_
    repeat' (first
      | (with_reducible refine arun_nil ?_)
      | ((with_reducible apply arun_any); (focus exact rfl); (focus (simp (disch := first | assumption | (with_reducible exact okL_limbs _) | omega) only [go_sem, ↓reduceIte, Nat.reduceEqDiff, reduceCtorEq, Nat.reduceAdd]; with_reducible exact rfl)); with_reducible (first | refine okk_some ?_ | (refine okk_ite ?_ ?_; (focus omega)) | (refine okk_ifn ?_ ?_; (focus omega)))))
    all_goals (simp only [go_sem, ↓reduceIte, Nat.reduceEqDiff, reduceCtorEq, Nat.reduceAdd]; refine hK0 _ ?_; clear hK0 K0)
    refine awp_ret ?_
    simp only [go_sem, ↓reduceIte, Nat.reduceEqDiff, reduceCtorEq, Nat.reduceAdd, Res]
end ROf

/-! ### Small -/
def rSmall (n : Nat) : AV := .tup [.val (.int .i64 (if bl n ≤ 63 then (n : Int) else 0)), .val (.bool (decide (bl n ≤ 63)))]
def spSmall : List AV → Option AV := sp1 0 fun L => some (rSmall (nv L))
attribute [go_sem] spSmall rSmall
theorem or_zero_i64 {x : Int} (h1 : 0 ≤ x) (h2 : x < 4294967296) : bitsOp .or .i64 0 x = x := by
  obtain ⟨k, rfl⟩ := Int.eq_ofNat_of_zero_le h1
  show IntKind.i64.wrap ((BitVec.ofInt 64 0 ||| BitVec.ofInt 64 (k : Int)).toNat : Int) = _
  rw [BitVec.ofInt_natCast, show BitVec.ofInt 64 0 = 0#64 from rfl, BitVec.zero_or, BitVec.toNat_ofNat, Nat.mod_eq_of_lt (by omega), wrap_i64_in (by omega) (by omega)]
theorem or_hi_i64 {a b : Int} (h1 : 0 ≤ a) (h2 : a < 2147483648) (h3 : 0 ≤ b) (h4 : b < 4294967296) : bitsOp .or .i64 b (a * 4294967296) = a * 4294967296 + b := by
  obtain ⟨m, rfl⟩ := Int.eq_ofNat_of_zero_le h1
  obtain ⟨k, rfl⟩ := Int.eq_ofNat_of_zero_le h3
  have e1 : (m : Int) * 4294967296 = ((m * 4294967296 : Nat) : Int) := by omega
  rw [e1]
  show IntKind.i64.wrap ((BitVec.ofInt 64 (k : Int) ||| BitVec.ofInt 64 ((m * 4294967296 : Nat) : Int)).toNat : Int) = _
  rw [BitVec.or_comm, BitVec.ofInt_natCast, BitVec.ofInt_natCast, BitVec.toNat_or, BitVec.toNat_ofNat, BitVec.toNat_ofNat]
  have : (m * 4294967296 % 2 ^ 64 ||| k % 2 ^ 64) = m * 4294967296 + k := by
    rw [Nat.mod_eq_of_lt (by omega), Nat.mod_eq_of_lt (by omega), show (4294967296 : Nat) = 2 ^ 32 from rfl, ← Nat.shiftLeft_eq, Nat.shiftLeft_add_eq_or_of_lt (by omega)]
  rw [this, wrap_i64_in (by omega) (by omega)]
  omega
theorem bl_lt_pow {n k : Nat} (h : bl n ≤ k) : n < 2 ^ k := Nat.lt_of_lt_of_le (bl_lt n) (Nat.pow_le_pow_right (by decide) h)
theorem nv_len2 {A : List Int} (hA : okL A) (h : A.length ≤ 2) (h63 : nv A < 9223372036854775808) : A.getD 1 0 < 2147483648 ∧ (nv A : Int) = A.getD 0 0 + A.getD 1 0 * 4294967296 := by
  match A, h with
  | [], _ => simp [nv]
  | [x], _ =>
    have := hA x (by simp)
    simp [nv]; omega
  | [x, y], _ =>
    have h1 := hA x (by simp)
    have h2 := hA y (by simp)
    simp [nv, B] at h63 ⊢
    omega
namespace Small
def Γ : FuncId → Abs.Spec
  | 29 => .pure spBits
  | 47 => .pure spTrim
  | _ => .none
theorem ΓOK : ∀ f, SpecOK Try.prog f (Γ f) := by
  intro f
  unfold Γ
  split
  · exact ⟨⟨_, Try.func29, by decide +kernel, rfl⟩, Bits.ok⟩
  · exact ⟨⟨_, Try.func47, by decide +kernel, rfl⟩, Trim.ok⟩
  · trivial
attribute [local go_sem] Γ
theorem ok : PureOK Try.prog 37 spSmall := by
  refine pure_of_awp (n := 27) [2, 3] Try.func37 rfl rfl rfl ?_
  intro M0 w0 args r h
  obtain ⟨L, rfl, hL, hLl, hr⟩ := sp1_some h   -- params #[22]
  cases hr
  clear h
  refine ⟨by simp, ?_⟩
  refine awp_seq_k fun K0 hK0 => ?_
  refine awp_region (Θ := Θ) (Γ := Γ) [0] ΘOK ΓOK rfl ?_
  repeat' (first
    | (with_reducible refine arun_nil ?_)
    | ((with_reducible apply arun_any); (focus exact rfl); (focus (simp (disch := first | assumption | (with_reducible exact okL_limbs _) | omega) only [go_sem, ↓reduceIte, Nat.reduceEqDiff, reduceCtorEq, Nat.reduceAdd]; with_reducible exact rfl)); with_reducible (first | refine okk_some ?_ | (refine okk_ite ?_ ?_; (focus omega)) | (refine okk_ifn ?_ ?_; (focus omega)))))
  all_goals (simp only [go_sem, ↓reduceIte, Nat.reduceEqDiff, reduceCtorEq, Nat.reduceAdd]; refine hK0 _ ?_; clear hK0 K0)
  refine awp_seq_k fun K0 hK0 => ?_
  refine awp_seq_k fun K1 hK1 => ?_
  refine awp_region (Θ := Θ) (Γ := Γ) [0, 9] ΘOK ΓOK rfl ?_
  repeat' (first
    | (with_reducible refine arun_nil ?_)
    | ((with_reducible apply arun_any); (focus exact rfl); (focus (simp (disch := first | assumption | (with_reducible exact okL_limbs _) | omega) only [go_sem, ↓reduceIte, Nat.reduceEqDiff, reduceCtorEq, Nat.reduceAdd]; with_reducible exact rfl)); with_reducible (first | refine okk_some ?_ | (refine okk_ite ?_ ?_; (focus omega)) | (refine okk_ifn ?_ ?_; (focus omega)))))
  all_goals (simp only [go_sem, ↓reduceIte, Nat.reduceEqDiff, reduceCtorEq, Nat.reduceAdd]; refine hK1 _ ?_; clear hK1 K1)
  apply awp_cond
  (focus (simp only [go_sem, ↓reduceIte, Nat.reduceEqDiff, reduceCtorEq, Nat.reduceAdd]; exact rfl))
  all_goals intro hc
  ·
    have hb : ¬ bl (nv L) ≤ 63 := by simp at hc; omega
    refine awp_seq_k fun K1 hK1 => ?_
    refine awp_region (Θ := Θ) (Γ := Γ) [2, 3] ΘOK ΓOK rfl ?_
    repeat' (first
      | (with_reducible refine arun_nil ?_)
      | ((with_reducible apply arun_any); (focus exact rfl); (focus (simp (disch := first | assumption | (with_reducible exact okL_limbs _) | omega) only [go_sem, ↓reduceIte, Nat.reduceEqDiff, reduceCtorEq, Nat.reduceAdd]; with_reducible exact rfl)); with_reducible (first | refine okk_some ?_ | (refine okk_ite ?_ ?_; (focus omega)) | (refine okk_ifn ?_ ?_; (focus omega)))))
    all_goals (simp only [go_sem, ↓reduceIte, Nat.reduceEqDiff, reduceCtorEq, Nat.reduceAdd]; refine hK1 _ ?_; clear hK1 K1)
    refine awp_ret ?_
    simp only [go_sem, ↓reduceIte, Nat.reduceEqDiff, reduceCtorEq, Nat.reduceAdd, Res, hb, decide_false]
  ·
    have hb : bl (nv L) ≤ 63 := by simp at hc; omega
    have hn := bl_lt_pow hb
    clear hc
    refine awp_skip ?_
    refine hK0 _ ?_; clear hK0 K0
    refine awp_seq_k fun K0 hK0 => ?_
    refine awp_region (Θ := Θ) (Γ := Γ) [0, 4] ΘOK ΓOK rfl ?_
    repeat' (first
      | (with_reducible refine arun_nil ?_)
      | ((with_reducible apply arun_any); (focus exact rfl); (focus (simp (disch := first | assumption | (with_reducible exact okL_limbs _) | omega) only [go_sem, ↓reduceIte, Nat.reduceEqDiff, reduceCtorEq, Nat.reduceAdd]; with_reducible exact rfl)); with_reducible (first | refine okk_some ?_ | (refine okk_ite ?_ ?_; (focus omega)) | (refine okk_ifn ?_ ?_; (focus omega)))))
    all_goals (simp only [go_sem, ↓reduceIte, Nat.reduceEqDiff, reduceCtorEq, Nat.reduceAdd]; refine hK0 _ ?_; clear hK0 K0)
    have hA := okL_limbs (nv L)
    have hAl : (limbs (nv L)).length ≤ 2 := limbs_length_le (by unfold B; omega)
    have hAv := nv_limbs (nv L)
    refine awp_seq_k fun K0 hK0 => ?_
    refine awp_seq_k fun K1 hK1 => ?_
    refine awp_region (Θ := Θ) (Γ := Γ) [4, 11, 12, 13] ΘOK ΓOK rfl ?_
    repeat' (first
      | (with_reducible refine arun_nil ?_)
      | ((with_reducible apply arun_any); (focus exact rfl); (focus (simp (disch := first | assumption | (with_reducible exact okL_limbs _) | omega) only [go_sem, ↓reduceIte, Nat.reduceEqDiff, reduceCtorEq, Nat.reduceAdd]; with_reducible exact rfl)); with_reducible (first | refine okk_some ?_ | (refine okk_ite ?_ ?_; (focus omega)) | (refine okk_ifn ?_ ?_; (focus omega)))))
    all_goals (simp only [go_sem, ↓reduceIte, Nat.reduceEqDiff, reduceCtorEq, Nat.reduceAdd]; refine hK1 _ ?_; clear hK1 K1)
    generalize nv L = N at *
    generalize limbs N = A at *
    have h2 := nv_len2 hA hAl (by rw [hAv]; omega)
    rw [hAv] at h2
    have hx0 := okL_get hA 0
    have hx1 := okL_get hA 1
    have g1 : A.length ≤ 1 → A.getD 1 0 = 0 := fun h => getD_ge A h
    have g0 : A.length ≤ 0 → A.getD 0 0 = 0 := fun h => getD_ge A h
    generalize hz : A.getD 1 0 = z at *
    generalize hy : A.getD 0 0 = y at *
    refine awp_block ?_   -- 0
    refine awp_loop_st (ι := Nat) (fun p => [(4, vInt .i64 (if p = 0 then 0 else if p = 1 then y else N)), (11, .lst (ints .u32 A)), (12, vInt .i64 A.length), (13, vInt .i64 p)]) (fun p => []) (fun p => A.length - p)
      (fun p => p ≤ A.length) 0
      (by omega) (by simp [agree_cons, agree_nil, slook_cons, vInt]) (by simp) ?_
    rintro i h1
    refine awp_seq_k fun K1 hK1 => ?_
    refine awp_region (Θ := Θ) (Γ := Γ) [4, 11, 12, 13, 14] ΘOK ΓOK rfl ?_
    repeat' (first
      | (with_reducible refine arun_nil ?_)
      | ((with_reducible apply arun_any); (focus exact rfl); (focus (simp (disch := first | assumption | (with_reducible exact okL_limbs _) | omega) only [go_sem, ↓reduceIte, Nat.reduceEqDiff, reduceCtorEq, Nat.reduceAdd]; with_reducible exact rfl)); with_reducible (first | refine okk_some ?_ | (refine okk_ite ?_ ?_; (focus omega)) | (refine okk_ifn ?_ ?_; (focus omega)))))
    all_goals (simp only [go_sem, ↓reduceIte, Nat.reduceEqDiff, reduceCtorEq, Nat.reduceAdd]; refine hK1 _ ?_; clear hK1 K1)
    refine awp_seq_k fun K1 hK1 => ?_
    apply awp_cond
    (focus (simp only [go_sem, ↓reduceIte, Nat.reduceEqDiff, reduceCtorEq, Nat.reduceAdd]; exact rfl))
    all_goals intro hc
    ·
      have hi : i < A.length := by simpa using hc
      clear hc
      refine awp_skip ?_
      refine hK1 _ ?_; clear hK1 K1
      have hi2 : i = 0 ∨ i = 1 := by omega
      rcases hi2 with rfl | rfl
      ·
        have e1 : y * 2 ^ min (32 * ((0 : Nat) : Int)).toNat 64 = y := by
          rw [show (min (32 * ((0 : Nat) : Int)).toNat 64) = 0 from rfl]; omega
        refine awp_seq_k fun K1 hK1 => ?_
        refine awp_block ?_   -- 1
        refine awp_seq_k fun K2 hK2 => ?_
        refine awp_region (Θ := Θ) (Γ := Γ) [4, 5, 6, 11, 12, 13] ΘOK ΓOK rfl ?_
        repeat' (first
          | (with_reducible refine arun_nil ?_)
          | ((with_reducible apply arun_any); (focus exact rfl); (focus (simp (disch := first | assumption | (with_reducible exact okL_limbs _) | omega) only [go_sem, ↓reduceIte, Nat.reduceEqDiff, reduceCtorEq, Nat.reduceAdd, hy, or_zero_i64, e1]; with_reducible exact rfl)); with_reducible (first | refine okk_some ?_ | (refine okk_ite ?_ ?_; (focus omega)) | (refine okk_ifn ?_ ?_; (focus omega)))))
        all_goals (simp only [go_sem, ↓reduceIte, Nat.reduceEqDiff, reduceCtorEq, Nat.reduceAdd]; refine hK2 _ ?_; clear hK2 K2)
        refine awp_region (Θ := Θ) (Γ := Γ) [4, 11, 12, 13] ΘOK ΓOK rfl ?_
        repeat' (first
          | (with_reducible refine arun_nil ?_)
          | ((with_reducible apply arun_any); (focus exact rfl); (focus (simp (disch := first | assumption | (with_reducible exact okL_limbs _) | omega) only [go_sem, ↓reduceIte, Nat.reduceEqDiff, reduceCtorEq, Nat.reduceAdd, hy, or_zero_i64, e1]; with_reducible exact rfl)); with_reducible (first | refine okk_some ?_ | (refine okk_ite ?_ ?_; (focus omega)) | (refine okk_ifn ?_ ?_; (focus omega)))))
        all_goals (simp only [go_sem, ↓reduceIte, Nat.reduceEqDiff, reduceCtorEq, Nat.reduceAdd])
        refine hK1 _ ?_; clear hK1 K1
        refine awp_region (Θ := Θ) (Γ := Γ) [4, 11, 12, 13] ΘOK ΓOK rfl ?_
        repeat' (first
          | (with_reducible refine arun_nil ?_)
          | ((with_reducible apply arun_any); (focus exact rfl); (focus (simp (disch := first | assumption | (with_reducible exact okL_limbs _) | omega) only [go_sem, ↓reduceIte, Nat.reduceEqDiff, reduceCtorEq, Nat.reduceAdd, hy, or_zero_i64, e1]; with_reducible exact rfl)); with_reducible (first | refine okk_some ?_ | (refine okk_ite ?_ ?_; (focus omega)) | (refine okk_ifn ?_ ?_; (focus omega)))))
        all_goals (simp only [go_sem, ↓reduceIte, Nat.reduceEqDiff, reduceCtorEq, Nat.reduceAdd])
        refine ⟨1, by omega, ?_, by omega⟩
        first | (simp [agree_cons, agree_nil, slook_cons, vInt]; done) | (simp [agree_cons, agree_nil, slook_cons, vInt]; omega) | (simp [agree_cons, agree_nil, slook_cons, vInt]; grind)
      ·
        have e1 : z * 2 ^ min (32 * ((1 : Nat) : Int)).toNat 64 = z * 4294967296 := rfl
        refine awp_seq_k fun K1 hK1 => ?_
        refine awp_block ?_   -- 1
        refine awp_seq_k fun K2 hK2 => ?_
        refine awp_region (Θ := Θ) (Γ := Γ) [4, 5, 6, 11, 12, 13] ΘOK ΓOK rfl ?_
        repeat' (first
          | (with_reducible refine arun_nil ?_)
          | ((with_reducible apply arun_any); (focus exact rfl); (focus (simp (disch := first | assumption | (with_reducible exact okL_limbs _) | omega) only [go_sem, ↓reduceIte, Nat.reduceEqDiff, reduceCtorEq, Nat.reduceAdd, hz, e1, or_hi_i64]; with_reducible exact rfl)); with_reducible (first | refine okk_some ?_ | (refine okk_ite ?_ ?_; (focus omega)) | (refine okk_ifn ?_ ?_; (focus omega)))))
        all_goals (simp only [go_sem, ↓reduceIte, Nat.reduceEqDiff, reduceCtorEq, Nat.reduceAdd]; refine hK2 _ ?_; clear hK2 K2)
        refine awp_region (Θ := Θ) (Γ := Γ) [4, 11, 12, 13] ΘOK ΓOK rfl ?_
        repeat' (first
          | (with_reducible refine arun_nil ?_)
          | ((with_reducible apply arun_any); (focus exact rfl); (focus (simp (disch := first | assumption | (with_reducible exact okL_limbs _) | omega) only [go_sem, ↓reduceIte, Nat.reduceEqDiff, reduceCtorEq, Nat.reduceAdd, hz, e1, or_hi_i64]; with_reducible exact rfl)); with_reducible (first | refine okk_some ?_ | (refine okk_ite ?_ ?_; (focus omega)) | (refine okk_ifn ?_ ?_; (focus omega)))))
        all_goals (simp only [go_sem, ↓reduceIte, Nat.reduceEqDiff, reduceCtorEq, Nat.reduceAdd])
        refine hK1 _ ?_; clear hK1 K1
        refine awp_region (Θ := Θ) (Γ := Γ) [4, 11, 12, 13] ΘOK ΓOK rfl ?_
        repeat' (first
          | (with_reducible refine arun_nil ?_)
          | ((with_reducible apply arun_any); (focus exact rfl); (focus (simp (disch := first | assumption | (with_reducible exact okL_limbs _) | omega) only [go_sem, ↓reduceIte, Nat.reduceEqDiff, reduceCtorEq, Nat.reduceAdd, hz, e1, or_hi_i64]; with_reducible exact rfl)); with_reducible (first | refine okk_some ?_ | (refine okk_ite ?_ ?_; (focus omega)) | (refine okk_ifn ?_ ?_; (focus omega)))))
        all_goals (simp only [go_sem, ↓reduceIte, Nat.reduceEqDiff, reduceCtorEq, Nat.reduceAdd])
        refine ⟨2, by omega, ?_, by omega⟩
        first | (simp [agree_cons, agree_nil, slook_cons, vInt]; done) | (simp [agree_cons, agree_nil, slook_cons, vInt]; omega) | (simp [agree_cons, agree_nil, slook_cons, vInt]; grind)
    ·
      have hi : i = A.length := by simp at hc; omega
      have hN : (if i = 0 then 0 else if i = 1 then y else (N : Int)) = N := by
        by_cases i0 : i = 0
        · rw [if_pos i0]; have := g0 (by omega); have := g1 (by omega); omega
        · rw [if_neg i0]
          by_cases i1 : i = 1
          · rw [if_pos i1]; have := g1 (by omega); omega
          · rw [if_neg i1]
      rw [hN]
      refine awp_exit ?_   -- exit 0
      simp only [Nat.reduceEqDiff, ↓reduceIte]
      refine hK0 _ ?_; clear hK0 K0 hK1 K1
      refine awp_seq_k fun K0 hK0 => ?_
      refine awp_region (Θ := Θ) (Γ := Γ) [2, 3] ΘOK ΓOK rfl ?_
      repeat' (first
        | (with_reducible refine arun_nil ?_)
        | ((with_reducible apply arun_any); (focus exact rfl); (focus (simp (disch := first | assumption | (with_reducible exact okL_limbs _) | omega) only [go_sem, ↓reduceIte, Nat.reduceEqDiff, reduceCtorEq, Nat.reduceAdd]; with_reducible exact rfl)); with_reducible (first | refine okk_some ?_ | (refine okk_ite ?_ ?_; (focus omega)) | (refine okk_ifn ?_ ?_; (focus omega)))))
      all_goals (simp only [go_sem, ↓reduceIte, Nat.reduceEqDiff, reduceCtorEq, Nat.reduceAdd]; refine hK0 _ ?_; clear hK0 K0)
      refine awp_ret ?_
      simp only [go_sem, ↓reduceIte, Nat.reduceEqDiff, reduceCtorEq, Nat.reduceAdd, Res, hb, decide_true]
end Small
end Go.Proofs

namespace Go.Proofs
open Go.Abs Go.NatMath
set_option linter.unusedVariables false
set_option linter.unusedSimpArgs false

theorem iv_drop_cons {L : List Int} (hL : okL L) {n : Nat} (h : n < L.length) : iv (L.drop n) = L.getD n 0 + 4294967296 * iv (L.drop (n + 1)) := by
  have e1 : L.drop n = L.getD n 0 :: L.drop (n + 1) := by
    rw [List.getD_eq_getElem?_getD, List.getElem?_eq_getElem h, Option.getD_some, List.drop_eq_getElem_cons]
  have o1 : okL (L.getD n 0 :: L.drop (n + 1)) := okL_cons.2 ⟨okL_get hL n, okL_drop _ hL⟩
  rw [e1, iv_cons o1]
theorem iv_drop_le (L : List Int) (n : Nat) : iv (L.drop n) ≤ iv L := by
  rcases Nat.lt_or_ge n L.length with h | h
  · have e := iv_append (L.take n) (L.drop n)
    rw [List.take_append_drop] at e
    have h1 := iv_nonneg (L.take n)
    have h2 := iv_nonneg (L.drop n)
    have h3 : 1 * iv (L.drop n) ≤ W (L.take n).length * iv (L.drop n) := Int.mul_le_mul_of_nonneg_right (by have := W_pos (L.take n).length; omega) h2
    omega
  · rw [List.drop_of_length_le h]; exact iv_nonneg L
namespace RSmall
def Γ : FuncId → Abs.Spec
  | 26 => .pure spPlain
  | 30 => .pure spBits
  | _ => .none
theorem ΓOK : ∀ f, SpecOK Try.prog f (Γ f) := by
  intro f
  unfold Γ
  split
  · exact ⟨⟨_, Try.func26, by decide +kernel, rfl⟩, RPlain.ok⟩
  · exact ⟨⟨_, Try.func30, by decide +kernel, rfl⟩, RBits.ok⟩
  · trivial
attribute [local go_sem] Γ
theorem ok : PureOK Try.prog 38 spSmall := by
  refine pure_of_awp (n := 27) [2, 3] Try.func38 rfl rfl rfl ?_
  intro M0 w0 args r h
  obtain ⟨L, rfl, hL, hLl, hr⟩ := sp1_some h   -- params #[22]
  cases hr
  clear h
  refine ⟨by simp, ?_⟩
  refine awp_seq_k fun K0 hK0 => ?_
  refine awp_region (Θ := Θ) (Γ := Γ) [0] ΘOK ΓOK rfl ?_
  repeat' (first
    | (with_reducible refine arun_nil ?_)
    | ((with_reducible apply arun_any); (focus exact rfl); (focus (simp (disch := first | assumption | (with_reducible exact okL_limbs _) | omega) only [go_sem, ↓reduceIte, Nat.reduceEqDiff, reduceCtorEq, Nat.reduceAdd]; with_reducible exact rfl)); with_reducible (first | refine okk_some ?_ | (refine okk_ite ?_ ?_; (focus omega)) | (refine okk_ifn ?_ ?_; (focus omega)))))
  all_goals (simp only [go_sem, ↓reduceIte, Nat.reduceEqDiff, reduceCtorEq, Nat.reduceAdd]; refine hK0 _ ?_; clear hK0 K0)
  refine awp_seq_k fun K0 hK0 => ?_
  refine awp_seq_k fun K1 hK1 => ?_
  refine awp_region (Θ := Θ) (Γ := Γ) [0, 8] ΘOK ΓOK rfl ?_
  repeat' (first
    | (with_reducible refine arun_nil ?_)
    | ((with_reducible apply arun_any); (focus exact rfl); (focus (simp (disch := first | assumption | (with_reducible exact okL_limbs _) | omega) only [go_sem, ↓reduceIte, Nat.reduceEqDiff, reduceCtorEq, Nat.reduceAdd]; with_reducible exact rfl)); with_reducible (first | refine okk_some ?_ | (refine okk_ite ?_ ?_; (focus omega)) | (refine okk_ifn ?_ ?_; (focus omega)))))
  all_goals (simp only [go_sem, ↓reduceIte, Nat.reduceEqDiff, reduceCtorEq, Nat.reduceAdd]; refine hK1 _ ?_; clear hK1 K1)
  apply awp_cond
  (focus (simp only [go_sem, ↓reduceIte, Nat.reduceEqDiff, reduceCtorEq, Nat.reduceAdd]; exact rfl))
  all_goals intro hc
  ·
    have hb : ¬ bl (nv L) ≤ 63 := by simp at hc; omega
    refine awp_seq_k fun K1 hK1 => ?_
    refine awp_region (Θ := Θ) (Γ := Γ) [2, 3] ΘOK ΓOK rfl ?_
    repeat' (first
      | (with_reducible refine arun_nil ?_)
      | ((with_reducible apply arun_any); (focus exact rfl); (focus (simp (disch := first | assumption | (with_reducible exact okL_limbs _) | omega) only [go_sem, ↓reduceIte, Nat.reduceEqDiff, reduceCtorEq, Nat.reduceAdd]; with_reducible exact rfl)); with_reducible (first | refine okk_some ?_ | (refine okk_ite ?_ ?_; (focus omega)) | (refine okk_ifn ?_ ?_; (focus omega)))))
    all_goals (simp only [go_sem, ↓reduceIte, Nat.reduceEqDiff, reduceCtorEq, Nat.reduceAdd]; refine hK1 _ ?_; clear hK1 K1)
    refine awp_ret ?_
    simp only [go_sem, ↓reduceIte, Nat.reduceEqDiff, reduceCtorEq, Nat.reduceAdd, Res, hb, decide_false]
  ·
    have hb : bl (nv L) ≤ 63 := by simp at hc; omega
    have hn := bl_lt_pow hb
    clear hc
    refine awp_skip ?_
    refine hK0 _ ?_; clear hK0 K0
    refine awp_seq_k fun K0 hK0 => ?_
    refine awp_region (Θ := Θ) (Γ := Γ) [0, 4] ΘOK ΓOK rfl ?_
    repeat' (first
      | (with_reducible refine arun_nil ?_)
      | ((with_reducible apply arun_any); (focus exact rfl); (focus (simp (disch := first | assumption | (with_reducible exact okL_limbs _) | omega) only [go_sem, ↓reduceIte, Nat.reduceEqDiff, reduceCtorEq, Nat.reduceAdd]; with_reducible exact rfl)); with_reducible (first | refine okk_some ?_ | (refine okk_ite ?_ ?_; (focus omega)) | (refine okk_ifn ?_ ?_; (focus omega)))))
    all_goals (simp only [go_sem, ↓reduceIte, Nat.reduceEqDiff, reduceCtorEq, Nat.reduceAdd]; refine hK0 _ ?_; clear hK0 K0)
    have hA := okL_limbs (nv L)
    have hAl : (limbs (nv L)).length ≤ 2 := limbs_length_le (by unfold B; omega)
    have hAv := nv_limbs (nv L)
    refine awp_seq_k fun K0 hK0 => ?_
    refine awp_region (Θ := Θ) (Γ := Γ) [0, 4] ΘOK ΓOK rfl ?_
    repeat' (first
      | (with_reducible refine arun_nil ?_)
      | ((with_reducible apply arun_any); (focus exact rfl); (focus (simp (disch := first | assumption | (with_reducible exact okL_limbs _) | omega) only [go_sem, ↓reduceIte, Nat.reduceEqDiff, reduceCtorEq, Nat.reduceAdd]; with_reducible exact rfl)); with_reducible (first | refine okk_some ?_ | (refine okk_ite ?_ ?_; (focus omega)) | (refine okk_ifn ?_ ?_; (focus omega)))))
    all_goals (simp only [go_sem, ↓reduceIte, Nat.reduceEqDiff, reduceCtorEq, Nat.reduceAdd]; refine hK0 _ ?_; clear hK0 K0)
    generalize nv L = N at *
    generalize limbs N = A at *
    refine awp_seq_k fun K0 hK0 => ?_
    refine awp_seq_k fun K1 hK1 => ?_
    refine awp_region (Θ := Θ) (Γ := Γ) [0, 4, 5] ΘOK ΓOK rfl ?_
    repeat' (first
      | (with_reducible refine arun_nil ?_)
      | ((with_reducible apply arun_any); (focus exact rfl); (focus (simp (disch := first | assumption | (with_reducible exact okL_limbs _) | omega) only [go_sem, ↓reduceIte, Nat.reduceEqDiff, reduceCtorEq, Nat.reduceAdd]; with_reducible exact rfl)); with_reducible (first | refine okk_some ?_ | (refine okk_ite ?_ ?_; (focus omega)) | (refine okk_ifn ?_ ?_; (focus omega)))))
    all_goals (simp only [go_sem, ↓reduceIte, Nat.reduceEqDiff, reduceCtorEq, Nat.reduceAdd]; refine hK1 _ ?_; clear hK1 K1)
    have hb2 : ∀ k, iv (A.drop k) < 9223372036854775808 := fun k => by
      have := iv_drop_le A k
      unfold iv at this ⊢
      omega
    refine awp_block ?_   -- 0
    refine awp_loop_st (ι := Nat) (fun p => [(0, .lst (ints .u32 A)), (4, vInt .i64 (iv (A.drop p))), (5, vInt .i64 ((p : Int) - 1))]) (fun p => []) (fun p => p)
      (fun p => p ≤ A.length) A.length
      (Nat.le_refl _) (by simp [agree_cons, agree_nil, slook_cons, vInt, iv_nil]) (by simp [ints]) ?_
    rintro i h1
    refine awp_seq_k fun K1 hK1 => ?_
    refine awp_seq_k fun K2 hK2 => ?_
    refine awp_region (Θ := Θ) (Γ := Γ) [0, 4, 5, 15] ΘOK ΓOK rfl ?_
    repeat' (first
      | (with_reducible refine arun_nil ?_)
      | ((with_reducible apply arun_any); (focus exact rfl); (focus (simp (disch := first | assumption | (with_reducible exact okL_limbs _) | omega) only [go_sem, ↓reduceIte, Nat.reduceEqDiff, reduceCtorEq, Nat.reduceAdd]; with_reducible exact rfl)); with_reducible (first | refine okk_some ?_ | (refine okk_ite ?_ ?_; (focus omega)) | (refine okk_ifn ?_ ?_; (focus omega)))))
    all_goals (simp only [go_sem, ↓reduceIte, Nat.reduceEqDiff, reduceCtorEq, Nat.reduceAdd]; refine hK2 _ ?_; clear hK2 K2)
    apply awp_cond
    (focus (simp only [go_sem, ↓reduceIte, Nat.reduceEqDiff, reduceCtorEq, Nat.reduceAdd]; exact rfl))
    all_goals intro hc
    ·
      refine awp_skip ?_
      refine hK1 _ ?_; clear hK1 K1
      obtain ⟨m, rfl⟩ : ∃ m, i = m + 1 := ⟨i - 1, by simp at hc; omega⟩
      clear hc
      have e1 : ((m + 1 : Nat) : Int) - 1 = (m : Int) := by omega
      rw [e1]
      have hs := iv_drop_cons hA (show m < A.length by omega)
      have hb3 := hb2 m
      have hnn := iv_nonneg (A.drop (m + 1))
      have hx := okL_get hA m
      generalize iv (A.drop (m + 1)) = t at *
      generalize hxe : A.getD m 0 = x at *
      refine awp_seq_k fun K1 hK1 => ?_
      refine awp_block ?_   -- 1
      refine awp_region (Θ := Θ) (Γ := Γ) [0, 4, 5] ΘOK ΓOK rfl ?_
      repeat' (first
        | (with_reducible refine arun_nil ?_)
        | ((with_reducible apply arun_any); (focus exact rfl); (focus (simp (disch := first | assumption | (with_reducible exact okL_limbs _) | omega) only [go_sem, ↓reduceIte, Nat.reduceEqDiff, reduceCtorEq, Nat.reduceAdd, hxe]; with_reducible exact rfl)); with_reducible (first | refine okk_some ?_ | (refine okk_ite ?_ ?_; (focus omega)) | (refine okk_ifn ?_ ?_; (focus omega)))))
      all_goals (simp only [go_sem, ↓reduceIte, Nat.reduceEqDiff, reduceCtorEq, Nat.reduceAdd])
      refine hK1 _ ?_; clear hK1 K1
      refine awp_region (Θ := Θ) (Γ := Γ) [0, 4, 5] ΘOK ΓOK rfl ?_
      repeat' (first
        | (with_reducible refine arun_nil ?_)
        | ((with_reducible apply arun_any); (focus exact rfl); (focus (simp (disch := first | assumption | (with_reducible exact okL_limbs _) | omega) only [go_sem, ↓reduceIte, Nat.reduceEqDiff, reduceCtorEq, Nat.reduceAdd, hxe]; with_reducible exact rfl)); with_reducible (first | refine okk_some ?_ | (refine okk_ite ?_ ?_; (focus omega)) | (refine okk_ifn ?_ ?_; (focus omega)))))
      all_goals (simp only [go_sem, ↓reduceIte, Nat.reduceEqDiff, reduceCtorEq, Nat.reduceAdd])
      refine ⟨m, by omega, ?_, by omega⟩
      ·
        first | (simp [agree_cons, agree_nil, slook_cons, vInt]; done) | (simp [agree_cons, agree_nil, slook_cons, vInt]; omega) | (simp [agree_cons, agree_nil, slook_cons, vInt]; grind)
    ·
      have hi : i = 0 := by simp at hc; omega
      subst hi
      have e : iv (A.drop 0) = (N : Int) := by rw [List.drop_zero]; unfold iv; rw [hAv]
      rw [e]
      refine awp_exit ?_   -- exit 0
      simp only [Nat.reduceEqDiff, ↓reduceIte]
      refine hK0 _ ?_; clear hK0 K0 hK1 K1
      refine awp_seq_k fun K0 hK0 => ?_
      refine awp_region (Θ := Θ) (Γ := Γ) [2, 3] ΘOK ΓOK rfl ?_
      repeat' (first
        | (with_reducible refine arun_nil ?_)
        | ((with_reducible apply arun_any); (focus exact rfl); (focus (simp (disch := first | assumption | (with_reducible exact okL_limbs _) | omega) only [go_sem, ↓reduceIte, Nat.reduceEqDiff, reduceCtorEq, Nat.reduceAdd]; with_reducible exact rfl)); with_reducible (first | refine okk_some ?_ | (refine okk_ite ?_ ?_; (focus omega)) | (refine okk_ifn ?_ ?_; (focus omega)))))
      all_goals (simp only [go_sem, ↓reduceIte, Nat.reduceEqDiff, reduceCtorEq, Nat.reduceAdd]; refine hK0 _ ?_; clear hK0 K0)
      refine awp_ret ?_
      simp only [go_sem, ↓reduceIte, Nat.reduceEqDiff, reduceCtorEq, Nat.reduceAdd, Res, hb, decide_true]
end RSmall

/-! ### NatInts -/
def spTrueI1 : List AV → Option AV
  | [.val (.int .i64 n), x] => if -9223372036854775808 ≤ n ∧ n ≤ 9223372036854775807 then (decK 0 x).bind fun _ => some (.val (.bool true)) else none
  | _ => none
attribute [go_sem] spTrueI1
theorem spTrueI1_some {args : List AV} {r : AV} (h : spTrueI1 args = some r) : ∃ n L, args = [.val (.int .i64 n), .lst (ints .u32 L)] ∧ (-9223372036854775808 ≤ n ∧ n ≤ 9223372036854775807) ∧ okL L ∧ L.length ≤ 35184372088831 ∧ r = .val (.bool true) := by
  unfold spTrueI1 at h
  split at h
  · split at h
    · rename_i hc
      obtain ⟨L, h1, h2⟩ := Option.bind_eq_some_iff.1 h
      obtain ⟨rfl, g2, g3⟩ := decK_some h1
      cases h2
      exact ⟨_, L, rfl, hc, g2, g3, rfl⟩
    · cases h
  · cases h
namespace NatInts
def Γ : FuncId → Abs.Spec
  | 21 => .pure spAwake
  | 22 => .pure spSame
  | 37 => .pure spSmall
  | 38 => .pure spSmall
  | 39 => .pure spOf
  | 40 => .pure spOf
  | _ => .none
theorem ΓOK : ∀ f, SpecOK Try.prog f (Γ f) := by
  intro f
  unfold Γ
  split
  · exact ⟨⟨_, Try.func21, by decide +kernel, rfl⟩, Awake.ok⟩
  · exact ⟨⟨_, Try.func22, by decide +kernel, rfl⟩, Same22.ok⟩
  · exact ⟨⟨_, Try.func37, by decide +kernel, rfl⟩, Small.ok⟩
  · exact ⟨⟨_, Try.func38, by decide +kernel, rfl⟩, RSmall.ok⟩
  · exact ⟨⟨_, Try.func39, by decide +kernel, rfl⟩, Of.ok⟩
  · exact ⟨⟨_, Try.func40, by decide +kernel, rfl⟩, ROf.ok⟩
  · trivial
attribute [local go_sem] Γ
theorem ok : PureOK Try.prog 9 spTrueI1 := by
  refine pure_of_awp (n := 37) [4] Try.func9 rfl rfl rfl ?_
  intro M0 w0 args r h
  obtain ⟨n, L, rfl, hn, hL, hLl, rfl⟩ := spTrueI1_some h
  clear h
  refine ⟨by simp, ?_⟩
  refine awp_seq_k fun K0 hK0 => ?_
  refine awp_region (Θ := Θ) (Γ := Γ) [0, 1] ΘOK ΓOK rfl ?_
  repeat' (first
    | (with_reducible refine arun_nil ?_)
    | ((with_reducible apply arun_any); (focus exact rfl); (focus (simp (disch := first | assumption | (with_reducible exact okL_limbs _) | omega) only [go_sem, ↓reduceIte, Nat.reduceEqDiff, reduceCtorEq, Nat.reduceAdd]; with_reducible exact rfl)); with_reducible (first | refine okk_some ?_ | (refine okk_ite ?_ ?_; (focus omega)) | (refine okk_ifn ?_ ?_; (focus omega)))))
  all_goals (simp only [go_sem, ↓reduceIte, Nat.reduceEqDiff, reduceCtorEq, Nat.reduceAdd]; refine hK0 _ ?_; clear hK0 K0)
  refine awp_seq_k fun K0 hK0 => ?_
  refine awp_region (Θ := Θ) (Γ := Γ) [0, 1, 5, 6] ΘOK ΓOK rfl ?_
  repeat' (first
    | (with_reducible refine arun_nil ?_)
    | ((with_reducible apply arun_any); (focus exact rfl); (focus (simp (disch := first | assumption | (with_reducible exact okL_limbs _) | omega) only [go_sem, ↓reduceIte, Nat.reduceEqDiff, reduceCtorEq, Nat.reduceAdd]; with_reducible exact rfl)); with_reducible (first | refine okk_some ?_ | (refine okk_ite ?_ ?_; (focus omega)) | (refine okk_ifn ?_ ?_; (focus omega)))))
  all_goals (simp only [go_sem, ↓reduceIte, Nat.reduceEqDiff, reduceCtorEq, Nat.reduceAdd]; refine hK0 _ ?_; clear hK0 K0)
  refine awp_seq_k fun K0 hK0 => ?_
  refine awp_region (Θ := Θ) (Γ := Γ) [0, 5, 6, 7, 8] ΘOK ΓOK rfl ?_
  repeat' (first
    | (with_reducible refine arun_nil ?_)
    | ((with_reducible apply arun_any); (focus exact rfl); (focus (simp (disch := first | assumption | (with_reducible exact okL_limbs _) | omega) only [go_sem, ↓reduceIte, Nat.reduceEqDiff, reduceCtorEq, Nat.reduceAdd]; with_reducible exact rfl)); with_reducible (first | refine okk_some ?_ | (refine okk_ite ?_ ?_; (focus omega)) | (refine okk_ifn ?_ ?_; (focus omega)))))
  all_goals (simp only [go_sem, ↓reduceIte, Nat.reduceEqDiff, reduceCtorEq, Nat.reduceAdd]; refine hK0 _ ?_; clear hK0 K0)
  have hA := okL_limbs n.toNat
  have hAl : (limbs n.toNat).length ≤ 2 := limbs_length_le (by unfold B; omega)
  refine awp_seq_k fun K0 hK0 => ?_
  refine awp_region (Θ := Θ) (Γ := Γ) [4] ΘOK ΓOK rfl ?_
  repeat' (first
    | (with_reducible refine arun_nil ?_)
    | ((with_reducible apply arun_any); (focus exact rfl); (focus (simp (disch := first | assumption | (with_reducible exact okL_limbs _) | omega) only [go_sem, ↓reduceIte, Nat.reduceEqDiff, reduceCtorEq, Nat.reduceAdd]; with_reducible exact rfl)); with_reducible (first | refine okk_some ?_ | (refine okk_ite ?_ ?_; (focus omega)) | (refine okk_ifn ?_ ?_; (focus omega))))
    | ((with_reducible apply arun_gyes); (focus exact rfl); (focus (simp only [go_sem, ↓reduceIte, Nat.reduceEqDiff, reduceCtorEq, Nat.reduceAdd]; with_reducible exact rfl)); (focus first | assumption | exact rfl))
    | ((with_reducible apply arun_gundef); (focus exact rfl); (focus (simp only [go_sem, ↓reduceIte, Nat.reduceEqDiff, reduceCtorEq, Nat.reduceAdd]; with_reducible exact rfl)))
    | ((with_reducible apply arun_gno); (focus exact rfl); (focus (simp only [go_sem, ↓reduceIte, Nat.reduceEqDiff, reduceCtorEq, Nat.reduceAdd]; with_reducible exact rfl)); (focus first | assumption | exact rfl))
    | ((with_reducible apply arun_guard); (focus exact rfl); (focus (simp only [go_sem, ↓reduceIte, Nat.reduceEqDiff, reduceCtorEq, Nat.reduceAdd]; with_reducible exact rfl)); (focus intro hb); rotate_left; (focus intro hb); rotate_right))
  all_goals (simp only [go_sem, ↓reduceIte, Nat.reduceEqDiff, reduceCtorEq, Nat.reduceAdd]; refine hK0 _ ?_; clear hK0 K0)
  refine awp_ret ?_
  simp only [go_sem, ↓reduceIte, Nat.reduceEqDiff, reduceCtorEq, Nat.reduceAdd, Res]
end NatInts
end Go.Proofs
