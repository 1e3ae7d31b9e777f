/- Contracts of functions that the law reaches: what they compute. No condition. -/
import Derived.Test.YtjnejhlnhapogaaT6
set_option linter.unusedVariables false
set_option linter.unusedSimpArgs false
namespace Go.Proofs
open Go.Abs Go.NatMath
set_option linter.unusedVariables false
set_option linter.unusedSimpArgs false

/-! ### Of -/
def spOf : List AV → Option AV
  | [.val (.int .i64 n)] => if -9223372036854775808 ≤ n ∧ n ≤ 9223372036854775807 then some (U n.toNat) else none
  | _ => none
attribute [go_sem] spOf
theorem spOf_some {args : List AV} {r : AV} (h : spOf args = some r) : ∃ n, args = [.val (.int .i64 n)] ∧ (-9223372036854775808 ≤ n ∧ n ≤ 9223372036854775807) ∧ r = U n.toNat := by
  unfold spOf at h
  split at h
  · split at h
    · rename_i hc; cases h; exact ⟨_, rfl, hc, rfl⟩
    · cases h
  · cases h
theorem nv_two {m : Nat} (h : m < 18446744073709551616) : nv [(m : Int) % 4294967296, (m : Int) / 4294967296 % 4294967296] = m := by
  simp only [nv, B]; omega
theorem okL_two (a b : Int) : okL [a % 4294967296, b % 4294967296] := by
  intro x hx; simp at hx; rcases hx with rfl | rfl <;> omega
namespace Of
def Γ : FuncId → Abs.Spec
  | 47 => .pure spTrim
  | _ => .none
theorem ΓOK : ∀ f, SpecOK Try.prog f (Γ f) := by
  intro f
  unfold Γ
  split
  · exact ⟨⟨_, Try.func47, by decide +kernel, rfl⟩, Trim.ok⟩
  · trivial
attribute [local go_sem] Γ
theorem ok : PureOK Try.prog 39 spOf := by
  refine pure_of_awp (n := 12) [2] Try.func39 rfl rfl rfl ?_
  intro M0 w0 args r h
  obtain ⟨n, rfl, hn, rfl⟩ := spOf_some h
  clear h
  refine ⟨by simp, ?_⟩
  refine awp_seq_k fun K0 hK0 => ?_
  refine awp_region (Θ := Θ) (Γ := Γ) [0] ΘOK ΓOK rfl ?_
  repeat' (first
    | (with_reducible refine arun_nil ?_)
    | ((with_reducible apply arun_any); (focus exact rfl); (focus (simp (disch := first | assumption | (with_reducible exact okL_limbs _) | omega) only [go_sem, ↓reduceIte, Nat.reduceEqDiff, reduceCtorEq, Nat.reduceAdd]; with_reducible exact rfl)); with_reducible (first | refine okk_some ?_ | (refine okk_ite ?_ ?_; (focus omega)) | (refine okk_ifn ?_ ?_; (focus omega)))))
  all_goals (simp only [go_sem, ↓reduceIte, Nat.reduceEqDiff, reduceCtorEq, Nat.reduceAdd]; refine hK0 _ ?_; clear hK0 K0)
  refine awp_seq_k fun K0 hK0 => ?_
  have main : ∀ (m : Nat) (σ : St), m < 9223372036854775808 → n.toNat = m → agree [(0, vInt .i64 m)] σ.t → σ.h = hlook [] → K0 σ := by
    intro m σ hm hnm hag hh
    refine hK0 σ ?_
    refine awp_forget _ hag ?_
    rw [hh]
    clear hK0 K0 hag hh
    have hv := nv_two (m := m) (by omega)
    have ho := okL_two (m : Int) ((m : Int) / 4294967296)
    have hl : [(m : Int) % 4294967296, (m : Int) / 4294967296 % 4294967296].length ≤ 35184372088831 := by simp
    refine awp_seq_k fun K0 hK0 => ?_
    refine awp_region (Θ := Θ) (Γ := Γ) [2] ΘOK ΓOK rfl ?_
    repeat' (first
      | (with_reducible refine arun_nil ?_)
      | ((with_reducible apply arun_any); (focus exact rfl); (focus (simp (disch := first | assumption | (with_reducible exact okL_limbs _) | omega) only [go_sem, ↓reduceIte, Nat.reduceEqDiff, reduceCtorEq, Nat.reduceAdd]; with_reducible exact rfl)); with_reducible (first | refine okk_some ?_ | (refine okk_ite ?_ ?_; (focus omega)) | (refine okk_ifn ?_ ?_; (focus omega)))))
    all_goals (simp only [go_sem, ↓reduceIte, Nat.reduceEqDiff, reduceCtorEq, Nat.reduceAdd]; refine hK0 _ ?_; clear hK0 K0)
    refine awp_ret ?_
    simp only [go_sem, ↓reduceIte, Nat.reduceEqDiff, reduceCtorEq, Nat.reduceAdd, Res, hv, hnm]
  refine awp_seq_k fun K1 hK1 => ?_
  refine awp_region (Θ := Θ) (Γ := Γ) [0, 4] ΘOK ΓOK rfl ?_
  repeat' (first
    | (with_reducible refine arun_nil ?_)
    | ((with_reducible apply arun_any); (focus exact rfl); (focus (simp (disch := first | assumption | (with_reducible exact okL_limbs _) | omega) only [go_sem, ↓reduceIte, Nat.reduceEqDiff, reduceCtorEq, Nat.reduceAdd]; with_reducible exact rfl)); with_reducible (first | refine okk_some ?_ | (refine okk_ite ?_ ?_; (focus omega)) | (refine okk_ifn ?_ ?_; (focus omega)))))
  all_goals (simp only [go_sem, ↓reduceIte, Nat.reduceEqDiff, reduceCtorEq, Nat.reduceAdd]; refine hK1 _ ?_; clear hK1 K1)
  apply awp_cond
  (focus (simp only [go_sem, ↓reduceIte, Nat.reduceEqDiff, reduceCtorEq, Nat.reduceAdd]; exact rfl))
  all_goals intro hc
  ·
    refine awp_region (Θ := Θ) (Γ := Γ) [0] ΘOK ΓOK rfl ?_
    repeat' (first
      | (with_reducible refine arun_nil ?_)
      | ((with_reducible apply arun_any); (focus exact rfl); (focus (simp (disch := first | assumption | (with_reducible exact okL_limbs _) | omega) only [go_sem, ↓reduceIte, Nat.reduceEqDiff, reduceCtorEq, Nat.reduceAdd]; with_reducible exact rfl)); with_reducible (first | refine okk_some ?_ | (refine okk_ite ?_ ?_; (focus omega)) | (refine okk_ifn ?_ ?_; (focus omega)))))
    all_goals (simp only [go_sem, ↓reduceIte, Nat.reduceEqDiff, reduceCtorEq, Nat.reduceAdd])
    refine main 0 _ (by omega) (by simp at hc; omega) ?_ rfl
    first | (simp [agree_cons, agree_nil, slook_cons, vInt]; done) | (simp [agree_cons, agree_nil, slook_cons, vInt]; omega) | (simp [agree_cons, agree_nil, slook_cons, vInt]; grind)
  ·
    refine awp_skip ?_
    refine main n.toNat _ (by omega) rfl ?_ rfl
    simp at hc
    first | (simp [agree_cons, agree_nil, slook_cons, vInt]; done) | (simp [agree_cons, agree_nil, slook_cons, vInt]; omega) | (simp [agree_cons, agree_nil, slook_cons, vInt]; grind)
end Of
namespace ROf
def Γ : FuncId → Abs.Spec := fun _ => .none
theorem ΓOK : ∀ f, SpecOK Try.prog f (Γ f) := fun _ => trivial
theorem ok : PureOK Try.prog 40 spOf := by
  refine pure_of_awp (n := 15) [2] Try.func40 rfl rfl rfl ?_
  intro M0 w0 args r h
  obtain ⟨n, rfl, hn, rfl⟩ := spOf_some h
  clear h
  refine ⟨by simp, ?_⟩
  refine awp_seq_k fun K0 hK0 => ?_
  refine awp_region (Θ := Θ) (Γ := Γ) [0] ΘOK ΓOK rfl ?_
  repeat' (first
    | (with_reducible refine arun_nil ?_)
    | ((with_reducible apply arun_any); (focus exact rfl); (focus (simp (disch := first | assumption | (with_reducible exact okL_limbs _) | omega) only [go_sem, ↓reduceIte, Nat.reduceEqDiff, reduceCtorEq, Nat.reduceAdd]; with_reducible exact rfl)); with_reducible (first | refine okk_some ?_ | (refine okk_ite ?_ ?_; (focus omega)) | (refine okk_ifn ?_ ?_; (focus omega)))))
  all_goals (simp only [go_sem, ↓reduceIte, Nat.reduceEqDiff, reduceCtorEq, Nat.reduceAdd]; refine hK0 _ ?_; clear hK0 K0)
  refine awp_seq_k fun K0 hK0 => ?_
  refine awp_region (Θ := Θ) (Γ := Γ) [0, 3] ΘOK ΓOK rfl ?_
  repeat' (first
    | (with_reducible refine arun_nil ?_)
    | ((with_reducible apply arun_any); (focus exact rfl); (focus (simp (disch := first | assumption | (with_reducible exact okL_limbs _) | omega) only [go_sem, ↓reduceIte, Nat.reduceEqDiff, reduceCtorEq, Nat.reduceAdd]; with_reducible exact rfl)); with_reducible (first | refine okk_some ?_ | (refine okk_ite ?_ ?_; (focus omega)) | (refine okk_ifn ?_ ?_; (focus omega)))))
  all_goals (simp only [go_sem, ↓reduceIte, Nat.reduceEqDiff, reduceCtorEq, Nat.reduceAdd]; refine hK0 _ ?_; clear hK0 K0)
  refine awp_own 3 13 48 1 (by decide) rfl rfl ?_
  simp only [go_sem, ↓reduceIte, Nat.reduceEqDiff, reduceCtorEq, Nat.reduceAdd]
  refine awp_seq_k fun K0 hK0 => ?_
  refine awp_block ?_   -- 0
  have hl0 : (limbs n.toNat).length ≤ 2 := limbs_length_le (by unfold B; omega)
  refine awp_loop_st (ι := Int × List Int) (fun p => [(0, vInt .i64 p.1), (3, .own 13)]) (fun p => [(13, ⟨48, 1, ints .u32 p.2, none⟩)]) (fun p => p.1.toNat)
    (fun p => p.1 ≤ 9223372036854775807 ∧ p.2 ++ limbs p.1.toNat = limbs n.toNat) (n, [])
    ⟨hn.2, rfl⟩ (by simp [agree_cons, agree_nil, slook_cons, vInt, upd_app]) (by simp [ints]) ?_
  rintro ⟨i, O⟩ ⟨h1, h2⟩
  simp only at h1 h2 ⊢
  have hOl : O.length ≤ 2 := by
    have := congrArg List.length h2
    simp only [List.length_append] at this
    omega
  refine awp_seq_k fun K1 hK1 => ?_
  refine awp_seq_k fun K2 hK2 => ?_
  refine awp_region (Θ := Θ) (Γ := Γ) [0, 3, 5] ΘOK ΓOK rfl ?_
  repeat' (first
    | (with_reducible refine arun_nil ?_)
    | ((with_reducible apply arun_any); (focus exact rfl); (focus (simp (disch := first | assumption | (with_reducible exact okL_limbs _) | omega) only [go_sem, ↓reduceIte, Nat.reduceEqDiff, reduceCtorEq, Nat.reduceAdd]; with_reducible exact rfl)); with_reducible (first | refine okk_some ?_ | (refine okk_ite ?_ ?_; (focus omega)) | (refine okk_ifn ?_ ?_; (focus omega)))))
  all_goals (simp only [go_sem, ↓reduceIte, Nat.reduceEqDiff, reduceCtorEq, Nat.reduceAdd]; refine hK2 _ ?_; clear hK2 K2)
  apply awp_cond
  (focus (simp only [go_sem, ↓reduceIte, Nat.reduceEqDiff, reduceCtorEq, Nat.reduceAdd]; exact rfl))
  all_goals intro hc
  ·
    have hi : 0 < i := by simpa using hc
    clear hc
    refine awp_skip ?_
    refine hK1 _ ?_; clear hK1 K1
    refine awp_seq_k fun K1 hK1 => ?_
    refine awp_block ?_   -- 1
    refine awp_region (Θ := Θ) (Γ := Γ) [0, 3] ΘOK ΓOK rfl ?_
    repeat' (first
      | (with_reducible refine arun_nil ?_)
      | ((with_reducible apply arun_any); (focus exact rfl); (focus (simp (disch := first | assumption | (with_reducible exact okL_limbs _) | omega) only [go_sem, ↓reduceIte, Nat.reduceEqDiff, reduceCtorEq, Nat.reduceAdd]; with_reducible exact rfl)); with_reducible (first | refine okk_some ?_ | (refine okk_ite ?_ ?_; (focus omega)) | (refine okk_ifn ?_ ?_; (focus omega)))))
    all_goals (simp only [go_sem, ↓reduceIte, Nat.reduceEqDiff, reduceCtorEq, Nat.reduceAdd])
    refine hK1 _ ?_; clear hK1 K1
    refine awp_region (Θ := Θ) (Γ := Γ) [0, 3] ΘOK ΓOK rfl ?_
    repeat' (first
      | (with_reducible refine arun_nil ?_)
      | ((with_reducible apply arun_any); (focus exact rfl); (focus (simp (disch := first | assumption | (with_reducible exact okL_limbs _) | omega) only [go_sem, ↓reduceIte, Nat.reduceEqDiff, reduceCtorEq, Nat.reduceAdd]; with_reducible exact rfl)); with_reducible (first | refine okk_some ?_ | (refine okk_ite ?_ ?_; (focus omega)) | (refine okk_ifn ?_ ?_; (focus omega)))))
    all_goals (simp only [go_sem, ↓reduceIte, Nat.reduceEqDiff, reduceCtorEq, Nat.reduceAdd])
    obtain ⟨m, rfl⟩ := Int.eq_ofNat_of_zero_le (Int.le_of_lt hi)
    rw [Int.toNat_natCast, limbs_pos (by omega)] at h2
    refine ⟨((m : Int) / 4294967296, O ++ [(m : Int) % 4294967296]), ⟨by simp only; omega, ?_⟩, ?_, ?_, by simp only; omega⟩
    · simp only
      rw [← h2, show ((m : Int) / 4294967296).toNat = m / B by unfold B; omega, show ((m % B : Nat) : Int) = (m : Int) % 4294967296 by unfold B; omega]
      simp
    ·
      first | (simp [agree_cons, agree_nil, slook_cons, vInt]; done) | (simp [agree_cons, agree_nil, slook_cons, vInt]; omega) | (simp [agree_cons, agree_nil, slook_cons, vInt]; grind)
    · rw [show (m : Int) % 4294967296 % 4294967296 = (m : Int) % 4294967296 by omega]
  ·
    have hi : i.toNat = 0 := by simp at hc; omega
    rw [hi, limbs_zero, List.append_nil] at h2
    subst h2
    refine awp_exit ?_   -- exit 0
    simp only [Nat.reduceEqDiff, ↓reduceIte]
    refine hK0 _ ?_; clear hK0 K0 hK1 K1
    refine awp_seq_k fun K0 hK0 => ?_
    refine awp_region (Θ := Θ) (Γ := Γ) [2] ΘOK ΓOK rfl ?_
    repeat' (first
      | (with_reducible refine arun_nil ?_)
      | ((with_reducible apply arun_any); (focus exact rfl); (focus (simp (disch := first | assumption | (with_reducible exact okL_limbs _) | omega) only [go_sem, ↓reduceIte, Nat.reduceEqDiff, reduceCtorEq, Nat.reduceAdd]; with_reducible exact rfl)); with_reducible (first | refine okk_some ?_ | (refine okk_ite ?_ ?_; (focus omega)) | (refine okk_ifn ?_ ?_; (focus omega)))))
    all_goals (simp only [go_sem, ↓reduceIte, Nat.reduceEqDiff, reduceCtorEq, Nat.reduceAdd]; refine hK0 _ ?_; clear hK0 K0)
    refine awp_ret ?_
    simp only [go_sem, ↓reduceIte, Nat.reduceEqDiff, reduceCtorEq, Nat.reduceAdd, Res]
end ROf

/-! ### Small -/
def rSmall (n : Nat) : AV := .tup [.val (.int .i64 (if bl n ≤ 63 then (n : Int) else 0)), .val (.bool (decide (bl n ≤ 63)))]
def spSmall : List AV → Option AV := sp1 0 fun L => some (rSmall (nv L))
attribute [go_sem] spSmall rSmall
theorem or_zero_i64 {x : Int} (h1 : 0 ≤ x) (h2 : x < 4294967296) : bitsOp .or .i64 0 x = x := by
  obtain ⟨k, rfl⟩ := Int.eq_ofNat_of_zero_le h1
  show IntKind.i64.wrap ((BitVec.ofInt 64 0 ||| BitVec.ofInt 64 (k : Int)).toNat : Int) = _
  rw [BitVec.ofInt_natCast, show BitVec.ofInt 64 0 = 0#64 from rfl, BitVec.zero_or, BitVec.toNat_ofNat, Nat.mod_eq_of_lt (by omega), wrap_i64_in (by omega) (by omega)]
theorem or_hi_i64 {a b : Int} (h1 : 0 ≤ a) (h2 : a < 2147483648) (h3 : 0 ≤ b) (h4 : b < 4294967296) : bitsOp .or .i64 b (a * 4294967296) = a * 4294967296 + b := by
  obtain ⟨m, rfl⟩ := Int.eq_ofNat_of_zero_le h1
  obtain ⟨k, rfl⟩ := Int.eq_ofNat_of_zero_le h3
  have e1 : (m : Int) * 4294967296 = ((m * 4294967296 : Nat) : Int) := by omega
  rw [e1]
  show IntKind.i64.wrap ((BitVec.ofInt 64 (k : Int) ||| BitVec.ofInt 64 ((m * 4294967296 : Nat) : Int)).toNat : Int) = _
  rw [BitVec.or_comm, BitVec.ofInt_natCast, BitVec.ofInt_natCast, BitVec.toNat_or, BitVec.toNat_ofNat, BitVec.toNat_ofNat]
  have : (m * 4294967296 % 2 ^ 64 ||| k % 2 ^ 64) = m * 4294967296 + k := by
    rw [Nat.mod_eq_of_lt (by omega), Nat.mod_eq_of_lt (by omega), show (4294967296 : Nat) = 2 ^ 32 from rfl, ← Nat.shiftLeft_eq, Nat.shiftLeft_add_eq_or_of_lt (by omega)]
  rw [this, wrap_i64_in (by omega) (by omega)]
  omega
theorem bl_lt_pow {n k : Nat} (h : bl n ≤ k) : n < 2 ^ k := Nat.lt_of_lt_of_le (bl_lt n) (Nat.pow_le_pow_right (by decide) h)
theorem nv_len2 {A : List Int} (hA : okL A) (h : A.length ≤ 2) (h63 : nv A < 9223372036854775808) : A.getD 1 0 < 2147483648 ∧ (nv A : Int) = A.getD 0 0 + A.getD 1 0 * 4294967296 := by
  match A, h with
  | [], _ => simp [nv]
  | [x], _ =>
    have := hA x (by simp)
    simp [nv]; omega
  | [x, y], _ =>
    have h1 := hA x (by simp)
    have h2 := hA y (by simp)
    simp [nv, B] at h63 ⊢
    omega
namespace Small
def Γ : FuncId → Abs.Spec
  | 29 => .pure spBits
  | 47 => .pure spTrim
  | _ => .none
theorem ΓOK : ∀ f, SpecOK Try.prog f (Γ f) := by
  intro f
  unfold Γ
  split
  · exact ⟨⟨_, Try.func29, by decide +kernel, rfl⟩, Bits.ok⟩
  · exact ⟨⟨_, Try.func47, by decide +kernel, rfl⟩, Trim.ok⟩
  · trivial
attribute [local go_sem] Γ
theorem ok : PureOK Try.prog 37 spSmall := by
  refine pure_of_awp (n := 27) [2, 3] Try.func37 rfl rfl rfl ?_
  intro M0 w0 args r h
  obtain ⟨L, rfl, hL, hLl, hr⟩ := sp1_some h   -- params #[22]
  cases hr
  clear h
  refine ⟨by simp, ?_⟩
  refine awp_seq_k fun K0 hK0 => ?_
  refine awp_region (Θ := Θ) (Γ := Γ) [0] ΘOK ΓOK rfl ?_
  repeat' (first
    | (with_reducible refine arun_nil ?_)
    | ((with_reducible apply arun_any); (focus exact rfl); (focus (simp (disch := first | assumption | (with_reducible exact okL_limbs _) | omega) only [go_sem, ↓reduceIte, Nat.reduceEqDiff, reduceCtorEq, Nat.reduceAdd]; with_reducible exact rfl)); with_reducible (first | refine okk_some ?_ | (refine okk_ite ?_ ?_; (focus omega)) | (refine okk_ifn ?_ ?_; (focus omega)))))
  all_goals (simp only [go_sem, ↓reduceIte, Nat.reduceEqDiff, reduceCtorEq, Nat.reduceAdd]; refine hK0 _ ?_; clear hK0 K0)
  refine awp_seq_k fun K0 hK0 => ?_
  refine awp_seq_k fun K1 hK1 => ?_
  refine awp_region (Θ := Θ) (Γ := Γ) [0, 9] ΘOK ΓOK rfl ?_
  repeat' (first
    | (with_reducible refine arun_nil ?_)
    | ((with_reducible apply arun_any); (focus exact rfl); (focus (simp (disch := first | assumption | (with_reducible exact okL_limbs _) | omega) only [go_sem, ↓reduceIte, Nat.reduceEqDiff, reduceCtorEq, Nat.reduceAdd]; with_reducible exact rfl)); with_reducible (first | refine okk_some ?_ | (refine okk_ite ?_ ?_; (focus omega)) | (refine okk_ifn ?_ ?_; (focus omega)))))
  all_goals (simp only [go_sem, ↓reduceIte, Nat.reduceEqDiff, reduceCtorEq, Nat.reduceAdd]; refine hK1 _ ?_; clear hK1 K1)
  apply awp_cond
  (focus (simp only [go_sem, ↓reduceIte, Nat.reduceEqDiff, reduceCtorEq, Nat.reduceAdd]; exact rfl))
  all_goals intro hc
  ·
    have hb : ¬ bl (nv L) ≤ 63 := by simp at hc; omega
    refine awp_seq_k fun K1 hK1 => ?_
    refine awp_region (Θ := Θ) (Γ := Γ) [2, 3] ΘOK ΓOK rfl ?_
    repeat' (first
      | (with_reducible refine arun_nil ?_)
      | ((with_reducible apply arun_any); (focus exact rfl); (focus (simp (disch := first | assumption | (with_reducible exact okL_limbs _) | omega) only [go_sem, ↓reduceIte, Nat.reduceEqDiff, reduceCtorEq, Nat.reduceAdd]; with_reducible exact rfl)); with_reducible (first | refine okk_some ?_ | (refine okk_ite ?_ ?_; (focus omega)) | (refine okk_ifn ?_ ?_; (focus omega)))))
    all_goals (simp only [go_sem, ↓reduceIte, Nat.reduceEqDiff, reduceCtorEq, Nat.reduceAdd]; refine hK1 _ ?_; clear hK1 K1)
    refine awp_ret ?_
    simp only [go_sem, ↓reduceIte, Nat.reduceEqDiff, reduceCtorEq, Nat.reduceAdd, Res, hb, decide_false]
  ·
    have hb : bl (nv L) ≤ 63 := by simp at hc; omega
    have hn := bl_lt_pow hb
    clear hc
    refine awp_skip ?_
    refine hK0 _ ?_; clear hK0 K0
    refine awp_seq_k fun K0 hK0 => ?_
    refine awp_region (Θ := Θ) (Γ := Γ) [0, 4] ΘOK ΓOK rfl ?_
    repeat' (first
      | (with_reducible refine arun_nil ?_)
      | ((with_reducible apply arun_any); (focus exact rfl); (focus (simp (disch := first | assumption | (with_reducible exact okL_limbs _) | omega) only [go_sem, ↓reduceIte, Nat.reduceEqDiff, reduceCtorEq, Nat.reduceAdd]; with_reducible exact rfl)); with_reducible (first | refine okk_some ?_ | (refine okk_ite ?_ ?_; (focus omega)) | (refine okk_ifn ?_ ?_; (focus omega)))))
    all_goals (simp only [go_sem, ↓reduceIte, Nat.reduceEqDiff, reduceCtorEq, Nat.reduceAdd]; refine hK0 _ ?_; clear hK0 K0)
    have hA := okL_limbs (nv L)
    have hAl : (limbs (nv L)).length ≤ 2 := limbs_length_le (by unfold B; omega)
    have hAv := nv_limbs (nv L)
    refine awp_seq_k fun K0 hK0 => ?_
    refine awp_seq_k fun K1 hK1 => ?_
    refine awp_region (Θ := Θ) (Γ := Γ) [4, 11, 12, 13] ΘOK ΓOK rfl ?_
    repeat' (first
      | (with_reducible refine arun_nil ?_)
      | ((with_reducible apply arun_any); (focus exact rfl); (focus (simp (disch := first | assumption | (with_reducible exact okL_limbs _) | omega) only [go_sem, ↓reduceIte, Nat.reduceEqDiff, reduceCtorEq, Nat.reduceAdd]; with_reducible exact rfl)); with_reducible (first | refine okk_some ?_ | (refine okk_ite ?_ ?_; (focus omega)) | (refine okk_ifn ?_ ?_; (focus omega)))))
    all_goals (simp only [go_sem, ↓reduceIte, Nat.reduceEqDiff, reduceCtorEq, Nat.reduceAdd]; refine hK1 _ ?_; clear hK1 K1)
    generalize nv L = N at *
    generalize limbs N = A at *
    have h2 := nv_len2 hA hAl (by rw [hAv]; omega)
    rw [hAv] at h2
    have hx0 := okL_get hA 0
    have hx1 := okL_get hA 1
    have g1 : A.length ≤ 1 → A.getD 1 0 = 0 := fun h => getD_ge A h
    have g0 : A.length ≤ 0 → A.getD 0 0 = 0 := fun h => getD_ge A h
    generalize hz : A.getD 1 0 = z at *
    generalize hy : A.getD 0 0 = y at *
    refine awp_block ?_   -- 0
    refine awp_loop_st (ι := Nat) (fun p => [(4, vInt .i64 (if p = 0 then 0 else if p = 1 then y else N)), (11, .lst (ints .u32 A)), (12, vInt .i64 A.length), (13, vInt .i64 p)]) (fun p => []) (fun p => A.length - p)
      (fun p => p ≤ A.length) 0
      (by omega) (by simp [agree_cons, agree_nil, slook_cons, vInt]) (by simp) ?_
    rintro i h1
    refine awp_seq_k fun K1 hK1 => ?_
    refine awp_region (Θ := Θ) (Γ := Γ) [4, 11, 12, 13, 14] ΘOK ΓOK rfl ?_
    repeat' (first
      | (with_reducible refine arun_nil ?_)
      | ((with_reducible apply arun_any); (focus exact rfl); (focus (simp (disch := first | assumption | (with_reducible exact okL_limbs _) | omega) only [go_sem, ↓reduceIte, Nat.reduceEqDiff, reduceCtorEq, Nat.reduceAdd]; with_reducible exact rfl)); with_reducible (first | refine okk_some ?_ | (refine okk_ite ?_ ?_; (focus omega)) | (refine okk_ifn ?_ ?_; (focus omega)))))
    all_goals (simp only [go_sem, ↓reduceIte, Nat.reduceEqDiff, reduceCtorEq, Nat.reduceAdd]; refine hK1 _ ?_; clear hK1 K1)
    refine awp_seq_k fun K1 hK1 => ?_
    apply awp_cond
    (focus (simp only [go_sem, ↓reduceIte, Nat.reduceEqDiff, reduceCtorEq, Nat.reduceAdd]; exact rfl))
    all_goals intro hc
    ·
      have hi : i < A.length := by simpa using hc
      clear hc
      refine awp_skip ?_
      refine hK1 _ ?_; clear hK1 K1
      have hi2 : i = 0 ∨ i = 1 := by omega
      rcases hi2 with rfl | rfl
      ·
        have e1 : y * 2 ^ min (32 * ((0 : Nat) : Int)).toNat 64 = y := by
          rw [show (min (32 * ((0 : Nat) : Int)).toNat 64) = 0 from rfl]; omega
        refine awp_seq_k fun K1 hK1 => ?_
        refine awp_block ?_   -- 1
        refine awp_seq_k fun K2 hK2 => ?_
        refine awp_region (Θ := Θ) (Γ := Γ) [4, 5, 6, 11, 12, 13] ΘOK ΓOK rfl ?_
        repeat' (first
          | (with_reducible refine arun_nil ?_)
          | ((with_reducible apply arun_any); (focus exact rfl); (focus (simp (disch := first | assumption | (with_reducible exact okL_limbs _) | omega) only [go_sem, ↓reduceIte, Nat.reduceEqDiff, reduceCtorEq, Nat.reduceAdd, hy, or_zero_i64, e1]; with_reducible exact rfl)); with_reducible (first | refine okk_some ?_ | (refine okk_ite ?_ ?_; (focus omega)) | (refine okk_ifn ?_ ?_; (focus omega)))))
        all_goals (simp only [go_sem, ↓reduceIte, Nat.reduceEqDiff, reduceCtorEq, Nat.reduceAdd]; refine hK2 _ ?_; clear hK2 K2)
        refine awp_region (Θ := Θ) (Γ := Γ) [4, 11, 12, 13] ΘOK ΓOK rfl ?_
        repeat' (first
          | (with_reducible refine arun_nil ?_)
          | ((with_reducible apply arun_any); (focus exact rfl); (focus (simp (disch := first | assumption | (with_reducible exact okL_limbs _) | omega) only [go_sem, ↓reduceIte, Nat.reduceEqDiff, reduceCtorEq, Nat.reduceAdd, hy, or_zero_i64, e1]; with_reducible exact rfl)); with_reducible (first | refine okk_some ?_ | (refine okk_ite ?_ ?_; (focus omega)) | (refine okk_ifn ?_ ?_; (focus omega)))))
        all_goals (simp only [go_sem, ↓reduceIte, Nat.reduceEqDiff, reduceCtorEq, Nat.reduceAdd])
        refine hK1 _ ?_; clear hK1 K1
        refine awp_region (Θ := Θ) (Γ := Γ) [4, 11, 12, 13] ΘOK ΓOK rfl ?_
        repeat' (first
          | (with_reducible refine arun_nil ?_)
          | ((with_reducible apply arun_any); (focus exact rfl); (focus (simp (disch := first | assumption | (with_reducible exact okL_limbs _) | omega) only [go_sem, ↓reduceIte, Nat.reduceEqDiff, reduceCtorEq, Nat.reduceAdd, hy, or_zero_i64, e1]; with_reducible exact rfl)); with_reducible (first | refine okk_some ?_ | (refine okk_ite ?_ ?_; (focus omega)) | (refine okk_ifn ?_ ?_; (focus omega)))))
        all_goals (simp only [go_sem, ↓reduceIte, Nat.reduceEqDiff, reduceCtorEq, Nat.reduceAdd])
        refine ⟨1, by omega, ?_, by omega⟩
        first | (simp [agree_cons, agree_nil, slook_cons, vInt]; done) | (simp [agree_cons, agree_nil, slook_cons, vInt]; omega) | (simp [agree_cons, agree_nil, slook_cons, vInt]; grind)
      ·
        have e1 : z * 2 ^ min (32 * ((1 : Nat) : Int)).toNat 64 = z * 4294967296 := rfl
        refine awp_seq_k fun K1 hK1 => ?_
        refine awp_block ?_   -- 1
        refine awp_seq_k fun K2 hK2 => ?_
        refine awp_region (Θ := Θ) (Γ := Γ) [4, 5, 6, 11, 12, 13] ΘOK ΓOK rfl ?_
        repeat' (first
          | (with_reducible refine arun_nil ?_)
          | ((with_reducible apply arun_any); (focus exact rfl); (focus (simp (disch := first | assumption | (with_reducible exact okL_limbs _) | omega) only [go_sem, ↓reduceIte, Nat.reduceEqDiff, reduceCtorEq, Nat.reduceAdd, hz, e1, or_hi_i64]; with_reducible exact rfl)); with_reducible (first | refine okk_some ?_ | (refine okk_ite ?_ ?_; (focus omega)) | (refine okk_ifn ?_ ?_; (focus omega)))))
        all_goals (simp only [go_sem, ↓reduceIte, Nat.reduceEqDiff, reduceCtorEq, Nat.reduceAdd]; refine hK2 _ ?_; clear hK2 K2)
        refine awp_region (Θ := Θ) (Γ := Γ) [4, 11, 12, 13] ΘOK ΓOK rfl ?_
        repeat' (first
          | (with_reducible refine arun_nil ?_)
          | ((with_reducible apply arun_any); (focus exact rfl); (focus (simp (disch := first | assumption | (with_reducible exact okL_limbs _) | omega) only [go_sem, ↓reduceIte, Nat.reduceEqDiff, reduceCtorEq, Nat.reduceAdd, hz, e1, or_hi_i64]; with_reducible exact rfl)); with_reducible (first | refine okk_some ?_ | (refine okk_ite ?_ ?_; (focus omega)) | (refine okk_ifn ?_ ?_; (focus omega)))))
        all_goals (simp only [go_sem, ↓reduceIte, Nat.reduceEqDiff, reduceCtorEq, Nat.reduceAdd])
        refine hK1 _ ?_; clear hK1 K1
        refine awp_region (Θ := Θ) (Γ := Γ) [4, 11, 12, 13] ΘOK ΓOK rfl ?_
        repeat' (first
          | (with_reducible refine arun_nil ?_)
          | ((with_reducible apply arun_any); (focus exact rfl); (focus (simp (disch := first | assumption | (with_reducible exact okL_limbs _) | omega) only [go_sem, ↓reduceIte, Nat.reduceEqDiff, reduceCtorEq, Nat.reduceAdd, hz, e1, or_hi_i64]; with_reducible exact rfl)); with_reducible (first | refine okk_some ?_ | (refine okk_ite ?_ ?_; (focus omega)) | (refine okk_ifn ?_ ?_; (focus omega)))))
        all_goals (simp only [go_sem, ↓reduceIte, Nat.reduceEqDiff, reduceCtorEq, Nat.reduceAdd])
        refine ⟨2, by omega, ?_, by omega⟩
        first | (simp [agree_cons, agree_nil, slook_cons, vInt]; done) | (simp [agree_cons, agree_nil, slook_cons, vInt]; omega) | (simp [agree_cons, agree_nil, slook_cons, vInt]; grind)
    ·
      have hi : i = A.length := by simp at hc; omega
      have hN : (if i = 0 then 0 else if i = 1 then y else (N : Int)) = N := by
        by_cases i0 : i = 0
        · rw [if_pos i0]; have := g0 (by omega); have := g1 (by omega); omega
        · rw [if_neg i0]
          by_cases i1 : i = 1
          · rw [if_pos i1]; have := g1 (by omega); omega
          · rw [if_neg i1]
      rw [hN]
      refine awp_exit ?_   -- exit 0
      simp only [Nat.reduceEqDiff, ↓reduceIte]
      refine hK0 _ ?_; clear hK0 K0 hK1 K1
      refine awp_seq_k fun K0 hK0 => ?_
      refine awp_region (Θ := Θ) (Γ := Γ) [2, 3] ΘOK ΓOK rfl ?_
      repeat' (first
        | (with_reducible refine arun_nil ?_)
        | ((with_reducible apply arun_any); (focus exact rfl); (focus (simp (disch := first | assumption | (with_reducible exact okL_limbs _) | omega) only [go_sem, ↓reduceIte, Nat.reduceEqDiff, reduceCtorEq, Nat.reduceAdd]; with_reducible exact rfl)); with_reducible (first | refine okk_some ?_ | (refine okk_ite ?_ ?_; (focus omega)) | (refine okk_ifn ?_ ?_; (focus omega)))))
      all_goals (simp only [go_sem, ↓reduceIte, Nat.reduceEqDiff, reduceCtorEq, Nat.reduceAdd]; refine hK0 _ ?_; clear hK0 K0)
      refine awp_ret ?_
      simp only [go_sem, ↓reduceIte, Nat.reduceEqDiff, reduceCtorEq, Nat.reduceAdd, Res, hb, decide_true]
end Small
end Go.Proofs

namespace Go.Proofs
open Go.Abs Go.NatMath
set_option linter.unusedVariables false
set_option linter.unusedSimpArgs false

theorem iv_drop_cons {L : List Int} (hL : okL L) {n : Nat} (h : n < L.length) : iv (L.drop n) = L.getD n 0 + 4294967296 * iv (L.drop (n + 1)) := by
  have e1 : L.drop n = L.getD n 0 :: L.drop (n + 1) := by
    rw [List.getD_eq_getElem?_getD, List.getElem?_eq_getElem h, Option.getD_some, List.drop_eq_getElem_cons]
  have o1 : okL (L.getD n 0 :: L.drop (n + 1)) := okL_cons.2 ⟨okL_get hL n, okL_drop _ hL⟩
  rw [e1, iv_cons o1]
theorem iv_drop_le (L : List Int) (n : Nat) : iv (L.drop n) ≤ iv L := by
  rcases Nat.lt_or_ge n L.length with h | h
  · have e := iv_append (L.take n) (L.drop n)
    rw [List.take_append_drop] at e
    have h1 := iv_nonneg (L.take n)
    have h2 := iv_nonneg (L.drop n)
    have h3 : 1 * iv (L.drop n) ≤ W (L.take n).length * iv (L.drop n) := Int.mul_le_mul_of_nonneg_right (by have := W_pos (L.take n).length; omega) h2
    omega
  · rw [List.drop_of_length_le h]; exact iv_nonneg L
namespace RSmall
def Γ : FuncId → Abs.Spec
  | 26 => .pure spPlain
  | 30 => .pure spBits
  | _ => .none
theorem ΓOK : ∀ f, SpecOK Try.prog f (Γ f) := by
  intro f
  unfold Γ
  split
  · exact ⟨⟨_, Try.func26, by decide +kernel, rfl⟩, RPlain.ok⟩
  · exact ⟨⟨_, Try.func30, by decide +kernel, rfl⟩, RBits.ok⟩
  · trivial
attribute [local go_sem] Γ
theorem ok : PureOK Try.prog 38 spSmall := by
  refine pure_of_awp (n := 27) [2, 3] Try.func38 rfl rfl rfl ?_
  intro M0 w0 args r h
  obtain ⟨L, rfl, hL, hLl, hr⟩ := sp1_some h   -- params #[22]
  cases hr
  clear h
  refine ⟨by simp, ?_⟩
  refine awp_seq_k fun K0 hK0 => ?_
  refine awp_region (Θ := Θ) (Γ := Γ) [0] ΘOK ΓOK rfl ?_
  repeat' (first
    | (with_reducible refine arun_nil ?_)
    | ((with_reducible apply arun_any); (focus exact rfl); (focus (simp (disch := first | assumption | (with_reducible exact okL_limbs _) | omega) only [go_sem, ↓reduceIte, Nat.reduceEqDiff, reduceCtorEq, Nat.reduceAdd]; with_reducible exact rfl)); with_reducible (first | refine okk_some ?_ | (refine okk_ite ?_ ?_; (focus omega)) | (refine okk_ifn ?_ ?_; (focus omega)))))
  all_goals (simp only [go_sem, ↓reduceIte, Nat.reduceEqDiff, reduceCtorEq, Nat.reduceAdd]; refine hK0 _ ?_; clear hK0 K0)
  refine awp_seq_k fun K0 hK0 => ?_
  refine awp_seq_k fun K1 hK1 => ?_
  refine awp_region (Θ := Θ) (Γ := Γ) [0, 8] ΘOK ΓOK rfl ?_
  repeat' (first
    | (with_reducible refine arun_nil ?_)
    | ((with_reducible apply arun_any); (focus exact rfl); (focus (simp (disch := first | assumption | (with_reducible exact okL_limbs _) | omega) only [go_sem, ↓reduceIte, Nat.reduceEqDiff, reduceCtorEq, Nat.reduceAdd]; with_reducible exact rfl)); with_reducible (first | refine okk_some ?_ | (refine okk_ite ?_ ?_; (focus omega)) | (refine okk_ifn ?_ ?_; (focus omega)))))
  all_goals (simp only [go_sem, ↓reduceIte, Nat.reduceEqDiff, reduceCtorEq, Nat.reduceAdd]; refine hK1 _ ?_; clear hK1 K1)
  apply awp_cond
  (focus (simp only [go_sem, ↓reduceIte, Nat.reduceEqDiff, reduceCtorEq, Nat.reduceAdd]; exact rfl))
  all_goals intro hc
  ·
    have hb : ¬ bl (nv L) ≤ 63 := by simp at hc; omega
    refine awp_seq_k fun K1 hK1 => ?_
    refine awp_region (Θ := Θ) (Γ := Γ) [2, 3] ΘOK ΓOK rfl ?_
    repeat' (first
      | (with_reducible refine arun_nil ?_)
      | ((with_reducible apply arun_any); (focus exact rfl); (focus (simp (disch := first | assumption | (with_reducible exact okL_limbs _) | omega) only [go_sem, ↓reduceIte, Nat.reduceEqDiff, reduceCtorEq, Nat.reduceAdd]; with_reducible exact rfl)); with_reducible (first | refine okk_some ?_ | (refine okk_ite ?_ ?_; (focus omega)) | (refine okk_ifn ?_ ?_; (focus omega)))))
    all_goals (simp only [go_sem, ↓reduceIte, Nat.reduceEqDiff, reduceCtorEq, Nat.reduceAdd]; refine hK1 _ ?_; clear hK1 K1)
    refine awp_ret ?_
    simp only [go_sem, ↓reduceIte, Nat.reduceEqDiff, reduceCtorEq, Nat.reduceAdd, Res, hb, decide_false]
  ·
    have hb : bl (nv L) ≤ 63 := by simp at hc; omega
    have hn := bl_lt_pow hb
    clear hc
    refine awp_skip ?_
    refine hK0 _ ?_; clear hK0 K0
    refine awp_seq_k fun K0 hK0 => ?_
    refine awp_region (Θ := Θ) (Γ := Γ) [0, 4] ΘOK ΓOK rfl ?_
    repeat' (first
      | (with_reducible refine arun_nil ?_)
      | ((with_reducible apply arun_any); (focus exact rfl); (focus (simp (disch := first | assumption | (with_reducible exact okL_limbs _) | omega) only [go_sem, ↓reduceIte, Nat.reduceEqDiff, reduceCtorEq, Nat.reduceAdd]; with_reducible exact rfl)); with_reducible (first | refine okk_some ?_ | (refine okk_ite ?_ ?_; (focus omega)) | (refine okk_ifn ?_ ?_; (focus omega)))))
    all_goals (simp only [go_sem, ↓reduceIte, Nat.reduceEqDiff, reduceCtorEq, Nat.reduceAdd]; refine hK0 _ ?_; clear hK0 K0)
    have hA := okL_limbs (nv L)
    have hAl : (limbs (nv L)).length ≤ 2 := limbs_length_le (by unfold B; omega)
    have hAv := nv_limbs (nv L)
    refine awp_seq_k fun K0 hK0 => ?_
    refine awp_region (Θ := Θ) (Γ := Γ) [0, 4] ΘOK ΓOK rfl ?_
    repeat' (first
      | (with_reducible refine arun_nil ?_)
      | ((with_reducible apply arun_any); (focus exact rfl); (focus (simp (disch := first | assumption | (with_reducible exact okL_limbs _) | omega) only [go_sem, ↓reduceIte, Nat.reduceEqDiff, reduceCtorEq, Nat.reduceAdd]; with_reducible exact rfl)); with_reducible (first | refine okk_some ?_ | (refine okk_ite ?_ ?_; (focus omega)) | (refine okk_ifn ?_ ?_; (focus omega)))))
    all_goals (simp only [go_sem, ↓reduceIte, Nat.reduceEqDiff, reduceCtorEq, Nat.reduceAdd]; refine hK0 _ ?_; clear hK0 K0)
    generalize nv L = N at *
    generalize limbs N = A at *
    refine awp_seq_k fun K0 hK0 => ?_
    refine awp_seq_k fun K1 hK1 => ?_
    refine awp_region (Θ := Θ) (Γ := Γ) [0, 4, 5] ΘOK ΓOK rfl ?_
    repeat' (first
      | (with_reducible refine arun_nil ?_)
      | ((with_reducible apply arun_any); (focus exact rfl); (focus (simp (disch := first | assumption | (with_reducible exact okL_limbs _) | omega) only [go_sem, ↓reduceIte, Nat.reduceEqDiff, reduceCtorEq, Nat.reduceAdd]; with_reducible exact rfl)); with_reducible (first | refine okk_some ?_ | (refine okk_ite ?_ ?_; (focus omega)) | (refine okk_ifn ?_ ?_; (focus omega)))))
    all_goals (simp only [go_sem, ↓reduceIte, Nat.reduceEqDiff, reduceCtorEq, Nat.reduceAdd]; refine hK1 _ ?_; clear hK1 K1)
    have hb2 : ∀ k, iv (A.drop k) < 9223372036854775808 := fun k => by
      have := iv_drop_le A k
      unfold iv at this ⊢
      omega
    refine awp_block ?_   -- 0
    refine awp_loop_st (ι := Nat) (fun p => [(0, .lst (ints .u32 A)), (4, vInt .i64 (iv (A.drop p))), (5, vInt .i64 ((p : Int) - 1))]) (fun p => []) (fun p => p)
      (fun p => p ≤ A.length) A.length
      (Nat.le_refl _) (by simp [agree_cons, agree_nil, slook_cons, vInt, iv_nil]) (by simp [ints]) ?_
    rintro i h1
    refine awp_seq_k fun K1 hK1 => ?_
    refine awp_seq_k fun K2 hK2 => ?_
    refine awp_region (Θ := Θ) (Γ := Γ) [0, 4, 5, 15] ΘOK ΓOK rfl ?_
    repeat' (first
      | (with_reducible refine arun_nil ?_)
      | ((with_reducible apply arun_any); (focus exact rfl); (focus (simp (disch := first | assumption | (with_reducible exact okL_limbs _) | omega) only [go_sem, ↓reduceIte, Nat.reduceEqDiff, reduceCtorEq, Nat.reduceAdd]; with_reducible exact rfl)); with_reducible (first | refine okk_some ?_ | (refine okk_ite ?_ ?_; (focus omega)) | (refine okk_ifn ?_ ?_; (focus omega)))))
    all_goals (simp only [go_sem, ↓reduceIte, Nat.reduceEqDiff, reduceCtorEq, Nat.reduceAdd]; refine hK2 _ ?_; clear hK2 K2)
    apply awp_cond
    (focus (simp only [go_sem, ↓reduceIte, Nat.reduceEqDiff, reduceCtorEq, Nat.reduceAdd]; exact rfl))
    all_goals intro hc
    ·
      refine awp_skip ?_
      refine hK1 _ ?_; clear hK1 K1
      obtain ⟨m, rfl⟩ : ∃ m, i = m + 1 := ⟨i - 1, by simp at hc; omega⟩
      clear hc
      have e1 : ((m + 1 : Nat) : Int) - 1 = (m : Int) := by omega
      rw [e1]
      have hs := iv_drop_cons hA (show m < A.length by omega)
      have hb3 := hb2 m
      have hnn := iv_nonneg (A.drop (m + 1))
      have hx := okL_get hA m
      generalize iv (A.drop (m + 1)) = t at *
      generalize hxe : A.getD m 0 = x at *
      refine awp_seq_k fun K1 hK1 => ?_
      refine awp_block ?_   -- 1
      refine awp_region (Θ := Θ) (Γ := Γ) [0, 4, 5] ΘOK ΓOK rfl ?_
      repeat' (first
        | (with_reducible refine arun_nil ?_)
        | ((with_reducible apply arun_any); (focus exact rfl); (focus (simp (disch := first | assumption | (with_reducible exact okL_limbs _) | omega) only [go_sem, ↓reduceIte, Nat.reduceEqDiff, reduceCtorEq, Nat.reduceAdd, hxe]; with_reducible exact rfl)); with_reducible (first | refine okk_some ?_ | (refine okk_ite ?_ ?_; (focus omega)) | (refine okk_ifn ?_ ?_; (focus omega)))))
      all_goals (simp only [go_sem, ↓reduceIte, Nat.reduceEqDiff, reduceCtorEq, Nat.reduceAdd])
      refine hK1 _ ?_; clear hK1 K1
      refine awp_region (Θ := Θ) (Γ := Γ) [0, 4, 5] ΘOK ΓOK rfl ?_
      repeat' (first
        | (with_reducible refine arun_nil ?_)
        | ((with_reducible apply arun_any); (focus exact rfl); (focus (simp (disch := first | assumption | (with_reducible exact okL_limbs _) | omega) only [go_sem, ↓reduceIte, Nat.reduceEqDiff, reduceCtorEq, Nat.reduceAdd, hxe]; with_reducible exact rfl)); with_reducible (first | refine okk_some ?_ | (refine okk_ite ?_ ?_; (focus omega)) | (refine okk_ifn ?_ ?_; (focus omega)))))
      all_goals (simp only [go_sem, ↓reduceIte, Nat.reduceEqDiff, reduceCtorEq, Nat.reduceAdd])
      refine ⟨m, by omega, ?_, by omega⟩
      ·
        first | (simp [agree_cons, agree_nil, slook_cons, vInt]; done) | (simp [agree_cons, agree_nil, slook_cons, vInt]; omega) | (simp [agree_cons, agree_nil, slook_cons, vInt]; grind)
    ·
      have hi : i = 0 := by simp at hc; omega
      subst hi
      have e : iv (A.drop 0) = (N : Int) := by rw [List.drop_zero]; unfold iv; rw [hAv]
      rw [e]
      refine awp_exit ?_   -- exit 0
      simp only [Nat.reduceEqDiff, ↓reduceIte]
      refine hK0 _ ?_; clear hK0 K0 hK1 K1
      refine awp_seq_k fun K0 hK0 => ?_
      refine awp_region (Θ := Θ) (Γ := Γ) [2, 3] ΘOK ΓOK rfl ?_
      repeat' (first
        | (with_reducible refine arun_nil ?_)
        | ((with_reducible apply arun_any); (focus exact rfl); (focus (simp (disch := first | assumption | (with_reducible exact okL_limbs _) | omega) only [go_sem, ↓reduceIte, Nat.reduceEqDiff, reduceCtorEq, Nat.reduceAdd]; with_reducible exact rfl)); with_reducible (first | refine okk_some ?_ | (refine okk_ite ?_ ?_; (focus omega)) | (refine okk_ifn ?_ ?_; (focus omega)))))
      all_goals (simp only [go_sem, ↓reduceIte, Nat.reduceEqDiff, reduceCtorEq, Nat.reduceAdd]; refine hK0 _ ?_; clear hK0 K0)
      refine awp_ret ?_
      simp only [go_sem, ↓reduceIte, Nat.reduceEqDiff, reduceCtorEq, Nat.reduceAdd, Res, hb, decide_true]
end RSmall

/-! ### NatInts -/
def spTrueI1 : List AV → Option AV
  | [.val (.int .i64 n), x] => if -9223372036854775808 ≤ n ∧ n ≤ 9223372036854775807 then (decK 0 x).bind fun _ => some (.val (.bool true)) else none
  | _ => none
attribute [go_sem] spTrueI1
theorem spTrueI1_some {args : List AV} {r : AV} (h : spTrueI1 args = some r) : ∃ n L, args = [.val (.int .i64 n), .lst (ints .u32 L)] ∧ (-9223372036854775808 ≤ n ∧ n ≤ 9223372036854775807) ∧ okL L ∧ L.length ≤ 35184372088831 ∧ r = .val (.bool true) := by
  unfold spTrueI1 at h
  split at h
  · split at h
    · rename_i hc
      obtain ⟨L, h1, h2⟩ := Option.bind_eq_some_iff.1 h
      obtain ⟨rfl, g2, g3⟩ := decK_some h1
      cases h2
      exact ⟨_, L, rfl, hc, g2, g3, rfl⟩
    · cases h
  · cases h
namespace NatInts
def Γ : FuncId → Abs.Spec
  | 21 => .pure spAwake
  | 22 => .pure spSame
  | 37 => .pure spSmall
  | 38 => .pure spSmall
  | 39 => .pure spOf
  | 40 => .pure spOf
  | _ => .none
theorem ΓOK : ∀ f, SpecOK Try.prog f (Γ f) := by
  intro f
  unfold Γ
  split
  · exact ⟨⟨_, Try.func21, by decide +kernel, rfl⟩, Awake.ok⟩
  · exact ⟨⟨_, Try.func22, by decide +kernel, rfl⟩, Same22.ok⟩
  · exact ⟨⟨_, Try.func37, by decide +kernel, rfl⟩, Small.ok⟩
  · exact ⟨⟨_, Try.func38, by decide +kernel, rfl⟩, RSmall.ok⟩
  · exact ⟨⟨_, Try.func39, by decide +kernel, rfl⟩, Of.ok⟩
  · exact ⟨⟨_, Try.func40, by decide +kernel, rfl⟩, ROf.ok⟩
  · trivial
attribute [local go_sem] Γ
theorem ok : PureOK Try.prog 9 spTrueI1 := by
  refine pure_of_awp (n := 37) [4] Try.func9 rfl rfl rfl ?_
  intro M0 w0 args r h
  obtain ⟨n, L, rfl, hn, hL, hLl, rfl⟩ := spTrueI1_some h
  clear h
  refine ⟨by simp, ?_⟩
  refine awp_seq_k fun K0 hK0 => ?_
  refine awp_region (Θ := Θ) (Γ := Γ) [0, 1] ΘOK ΓOK rfl ?_
  repeat' (first
    | (with_reducible refine arun_nil ?_)
    | ((with_reducible apply arun_any); (focus exact rfl); (focus (simp (disch := first | assumption | (with_reducible exact okL_limbs _) | omega) only [go_sem, ↓reduceIte, Nat.reduceEqDiff, reduceCtorEq, Nat.reduceAdd]; with_reducible exact rfl)); with_reducible (first | refine okk_some ?_ | (refine okk_ite ?_ ?_; (focus omega)) | (refine okk_ifn ?_ ?_; (focus omega)))))
  all_goals (simp only [go_sem, ↓reduceIte, Nat.reduceEqDiff, reduceCtorEq, Nat.reduceAdd]; refine hK0 _ ?_; clear hK0 K0)
  refine awp_seq_k fun K0 hK0 => ?_
  refine awp_region (Θ := Θ) (Γ := Γ) [0, 1, 5, 6] ΘOK ΓOK rfl ?_
  repeat' (first
    | (with_reducible refine arun_nil ?_)
    | ((with_reducible apply arun_any); (focus exact rfl); (focus (simp (disch := first | assumption | (with_reducible exact okL_limbs _) | omega) only [go_sem, ↓reduceIte, Nat.reduceEqDiff, reduceCtorEq, Nat.reduceAdd]; with_reducible exact rfl)); with_reducible (first | refine okk_some ?_ | (refine okk_ite ?_ ?_; (focus omega)) | (refine okk_ifn ?_ ?_; (focus omega)))))
  all_goals (simp only [go_sem, ↓reduceIte, Nat.reduceEqDiff, reduceCtorEq, Nat.reduceAdd]; refine hK0 _ ?_; clear hK0 K0)
  refine awp_seq_k fun K0 hK0 => ?_
  refine awp_region (Θ := Θ) (Γ := Γ) [0, 5, 6, 7, 8] ΘOK ΓOK rfl ?_
  repeat' (first
    | (with_reducible refine arun_nil ?_)
    | ((with_reducible apply arun_any); (focus exact rfl); (focus (simp (disch := first | assumption | (with_reducible exact okL_limbs _) | omega) only [go_sem, ↓reduceIte, Nat.reduceEqDiff, reduceCtorEq, Nat.reduceAdd]; with_reducible exact rfl)); with_reducible (first | refine okk_some ?_ | (refine okk_ite ?_ ?_; (focus omega)) | (refine okk_ifn ?_ ?_; (focus omega)))))
  all_goals (simp only [go_sem, ↓reduceIte, Nat.reduceEqDiff, reduceCtorEq, Nat.reduceAdd]; refine hK0 _ ?_; clear hK0 K0)
  have hA := okL_limbs n.toNat
  have hAl : (limbs n.toNat).length ≤ 2 := limbs_length_le (by unfold B; omega)
  refine awp_seq_k fun K0 hK0 => ?_
  refine awp_region (Θ := Θ) (Γ := Γ) [4] ΘOK ΓOK rfl ?_
  repeat' (first
    | (with_reducible refine arun_nil ?_)
    | ((with_reducible apply arun_any); (focus exact rfl); (focus (simp (disch := first | assumption | (with_reducible exact okL_limbs _) | omega) only [go_sem, ↓reduceIte, Nat.reduceEqDiff, reduceCtorEq, Nat.reduceAdd]; with_reducible exact rfl)); with_reducible (first | refine okk_some ?_ | (refine okk_ite ?_ ?_; (focus omega)) | (refine okk_ifn ?_ ?_; (focus omega))))
    | ((with_reducible apply arun_gyes); (focus exact rfl); (focus (simp only [go_sem, ↓reduceIte, Nat.reduceEqDiff, reduceCtorEq, Nat.reduceAdd]; with_reducible exact rfl)); (focus first | assumption | exact rfl))
    | ((with_reducible apply arun_gundef); (focus exact rfl); (focus (simp only [go_sem, ↓reduceIte, Nat.reduceEqDiff, reduceCtorEq, Nat.reduceAdd]; done)))
    | ((with_reducible apply arun_gno); (focus exact rfl); (focus (simp only [go_sem, ↓reduceIte, Nat.reduceEqDiff, reduceCtorEq, Nat.reduceAdd]; with_reducible exact rfl)); (focus first | assumption | exact rfl))
    | ((with_reducible apply arun_guard); (focus exact rfl); (focus (simp only [go_sem, ↓reduceIte, Nat.reduceEqDiff, reduceCtorEq, Nat.reduceAdd]; with_reducible exact rfl)); (focus intro hb); rotate_left; (focus intro hb); rotate_right))
  all_goals (simp only [go_sem, ↓reduceIte, Nat.reduceEqDiff, reduceCtorEq, Nat.reduceAdd]; refine hK0 _ ?_; clear hK0 K0)
  refine awp_ret ?_
  simp only [go_sem, ↓reduceIte, Nat.reduceEqDiff, reduceCtorEq, Nat.reduceAdd, Res]
end NatInts
end Go.Proofs

namespace Go.Proofs
open Go.Abs Go.NatMath
set_option linter.unusedVariables false
set_option linter.unusedSimpArgs false

/-! ### Parse -/
def digitB (x : Int) : Bool := decide (48 ≤ x) && decide (x ≤ 57)
def pOK (D : List Int) : Bool := !D.isEmpty && (!(D.getD 0 0 == 48) || D == [48]) && D.all digitB
def pv (D : List Int) : Nat := D.foldl (fun n d => 10 * n + (d - 48).toNat) 0
theorem pv_snoc (D : List Int) (d : Int) : pv (D ++ [d]) = 10 * pv D + (d - 48).toNat := by simp [pv, List.foldl_append]
def rParse (D : List Int) : AV := if pOK D = true then (if D.length ≤ 10000 then .tup [U (pv D), .val (.int .i64 0)] else .tup [.lst [], .val (.int .i64 2)]) else .tup [.lst [], .val (.int .i64 10)]
def spParse : List AV → Option AV
  | [.val (.string s)] => if s.size ≤ 140737488351232 then some (rParse (bys s)) else none
  | _ => none
attribute [go_sem] spParse
theorem spParse_some {args : List AV} {r : AV} (h : spParse args = some r) : ∃ s, args = [.val (.string s)] ∧ s.size ≤ 140737488351232 ∧ r = rParse (bys s) := by
  unfold spParse at h
  split at h
  · split at h
    · rename_i hc; cases h; exact ⟨_, rfl, hc, rfl⟩
    · cases h
  · cases h
theorem bytes_empty : bys (⟨#[]⟩ : ByteArray) = [] := rfl
theorem bytes_48 : bys (⟨#[48]⟩ : ByteArray) = [48] := rfl

theorem eq_limbs_of_len {L : List Int} (h : okL L) (hl : L.length ≤ (limbs (nv L)).length) : L = limbs (nv L) := by
  refine iv_inj h (okL_limbs _) (by have := limbs_length_nv h; omega) ?_
  unfold iv; rw [nv_limbs]
theorem parse_step {O Q : List Int} (hO : okL O) (hQ : okL Q) {k : Nat} {c d : Int} (hk : k < Q.length) (hq : Q.getD k 0 = O.getD k 0) (hc : 0 ≤ c) (h : iv Q + W k * c = iv O + 9 * iv (O.take k) + d) :
    iv (Q.set k ((c + O.getD k 0 * 10) % 4294967296)) + W (k + 1) * ((c + O.getD k 0 * 10) / 4294967296) = iv O + 9 * iv (O.take (k + 1)) + d := by
  have hx := okL_get hO k
  rw [iv_set hQ k (by omega) (by omega) hk, iv_take_succ hO, W_succ, hq]
  have hdm := Int.mul_ediv_add_emod (c + O.getD k 0 * 10) 4294967296
  generalize (c + O.getD k 0 * 10) / 4294967296 = q at *
  generalize (c + O.getD k 0 * 10) % 4294967296 = m at *
  generalize O.getD k 0 = x at *
  generalize W k = w at *
  generalize iv O = o at *
  generalize iv Q = r at *
  generalize iv (O.take k) = b at *
  grind
theorem parse_end {O Q : List Int} {n d : Nat} {c : Int} (hO : O = limbs n) (hQ : okL Q) (hl : Q.length = O.length) (hc : 0 ≤ c ∧ c ≤ 9) (h : iv Q + W O.length * c = iv O + 9 * iv (O.take O.length) + d) :
    (c ≤ 0 → Q = limbs (10 * n + d)) ∧ (0 < c → Q ++ [c] = limbs (10 * n + d)) := by
  have hOv : iv O = n := by rw [hO]; unfold iv; rw [nv_limbs]
  rw [iv_take_ge (Nat.le_refl _), hOv] at h
  constructor
  · intro h0
    have h0 : c = 0 := by omega
    subst h0
    have hv : nv Q = 10 * n + d := by unfold iv at h; omega
    have := eq_limbs_of_len hQ (by
      rw [hv, hl, hO]
      exact limbs_length_mono (by omega))
    rw [hv] at this
    exact this
  · intro h0
    have e := iv_append Q [c]
    rw [iv_one hc.1, hl] at e
    have hv : nv (Q ++ [c]) = 10 * n + d := by
      have : iv (Q ++ [c]) = 10 * n + d := by omega
      unfold iv at this; omega
    rw [← hv]
    refine (limbs_nv (okL_append.2 ⟨hQ, okL_cons.2 ⟨by omega, okL_nil⟩⟩) (fun _ => ?_)).symm
    simp; omega
theorem pv_take_succ (D : List Int) {i : Nat} (h : i < D.length) : pv (D.take (i + 1)) = 10 * pv (D.take i) + (D.getD i 0 - 48).toNat := by rw [take_succ_getD D h, pv_snoc]
theorem all_digits {D : List Int} (h : ∀ k, k < D.length → digitB (D.getD k 0) = true) : D.all digitB = true := by
  rw [List.all_eq_true]
  intro x hx
  obtain ⟨i, hi, rfl⟩ := List.mem_iff_getElem.1 hx
  have := h i hi
  rwa [List.getD_eq_getElem?_getD, List.getElem?_eq_getElem hi] at this
theorem not_digits {D : List Int} {k : Nat} (hk : k < D.length) (h : digitB (D.getD k 0) = false) : pOK D = false := by
  have : D.all digitB = false := by
    rw [List.all_eq_false]
    refine ⟨D[k], List.getElem_mem hk, ?_⟩
    rw [List.getD_eq_getElem?_getD, List.getElem?_eq_getElem hk] at h
    simpa using h
  unfold pOK
  rw [this, Bool.and_false]

namespace Parse
def Γ : FuncId → Abs.Spec := fun _ => .none
theorem ΓOK : ∀ f, SpecOK Try.prog f (Γ f) := fun _ => trivial
theorem ok : PureOK Try.prog 41 spParse := by
  refine pure_of_awp (n := 80) [2, 3] Try.func41 rfl rfl rfl ?_
  intro M0 w0 args r h
  obtain ⟨s, rfl, hs, rfl⟩ := spParse_some h
  clear h
  refine ⟨by simp, ?_⟩
  have hDl := bytes_length s
  have hDr := bytes_getD_range s
  obtain ⟨D, hD⟩ : ∃ D, bys s = D := ⟨_, rfl⟩
  rw [hD] at hDl hDr ⊢
  refine awp_seq_k fun K0 hK0 => ?_
  refine awp_region (Θ := Θ) (Γ := Γ) [0] ΘOK ΓOK rfl ?_
  repeat' (first
    | (with_reducible refine arun_nil ?_)
    | ((with_reducible apply arun_any); (focus exact rfl); (focus (simp (disch := first | assumption | (with_reducible exact okL_limbs _) | omega) only [go_sem, ↓reduceIte, Nat.reduceEqDiff, reduceCtorEq, Nat.reduceAdd]; with_reducible exact rfl)); with_reducible (first | refine okk_some ?_ | (refine okk_ite ?_ ?_; (focus omega)) | (refine okk_ifn ?_ ?_; (focus omega)))))
  all_goals (simp only [go_sem, ↓reduceIte, Nat.reduceEqDiff, reduceCtorEq, Nat.reduceAdd]; refine hK0 _ ?_; clear hK0 K0)
  refine awp_seq_k fun K0 hK0 => ?_
  have rest : D ≠ [] → (D.getD 0 0 = 48 → D = [48]) → ∀ σ : St, agree [(0, .val (.string s))] σ.t → σ.h = hlook [] → K0 σ := by
    intro hne h48 σ hag hh
    refine hK0 σ ?_
    refine awp_forget _ hag ?_
    rw [hh]
    clear hag hh hK0 K0
    refine awp_seq_k fun K0 hK0 => ?_
    refine awp_seq_k fun K1 hK1 => ?_
    refine awp_region (Θ := Θ) (Γ := Γ) [0, 22, 23] ΘOK ΓOK rfl ?_
    repeat' (first
      | (with_reducible refine arun_nil ?_)
      | ((with_reducible apply arun_any); (focus exact rfl); (focus (simp (disch := first | assumption | (with_reducible exact okL_limbs _) | omega) only [go_sem, ↓reduceIte, Nat.reduceEqDiff, reduceCtorEq, Nat.reduceAdd]; with_reducible exact rfl)); with_reducible (first | refine okk_some ?_ | (refine okk_ite ?_ ?_; (focus omega)) | (refine okk_ifn ?_ ?_; (focus omega)))))
    all_goals (simp only [go_sem, ↓reduceIte, Nat.reduceEqDiff, reduceCtorEq, Nat.reduceAdd]; refine hK1 _ ?_; clear hK1 K1)
    refine awp_block ?_   -- 0
    refine awp_loop_st (ι := Nat) (fun p => [(0, .val (.string s)), (22, vInt .i64 D.length), (23, vInt .i64 p)]) (fun p => []) (fun p => D.length - p)
      (fun p => p ≤ D.length ∧ ∀ k, k < p → digitB (D.getD k 0) = true) 0
      ⟨by omega, fun k hk => by omega⟩ (by simp [agree_cons, agree_nil, slook_cons, vInt]; omega) (by simp) ?_
    rintro i ⟨h1, h2⟩
    refine awp_seq_k fun K1 hK1 => ?_
    refine awp_region (Θ := Θ) (Γ := Γ) [0, 22, 23, 24] ΘOK ΓOK rfl ?_
    repeat' (first
      | (with_reducible refine arun_nil ?_)
      | ((with_reducible apply arun_any); (focus exact rfl); (focus (simp (disch := first | assumption | (with_reducible exact okL_limbs _) | omega) only [go_sem, ↓reduceIte, Nat.reduceEqDiff, reduceCtorEq, Nat.reduceAdd]; with_reducible exact rfl)); with_reducible (first | refine okk_some ?_ | (refine okk_ite ?_ ?_; (focus omega)) | (refine okk_ifn ?_ ?_; (focus omega)))))
    all_goals (simp only [go_sem, ↓reduceIte, Nat.reduceEqDiff, reduceCtorEq, Nat.reduceAdd]; refine hK1 _ ?_; clear hK1 K1)
    refine awp_seq_k fun K1 hK1 => ?_
    apply awp_cond
    (focus (simp only [go_sem, ↓reduceIte, Nat.reduceEqDiff, reduceCtorEq, Nat.reduceAdd]; exact rfl))
    all_goals intro hc
    ·
      have hi : i < D.length := by simpa using hc
      clear hc
      refine awp_skip ?_
      refine hK1 _ ?_; clear hK1 K1
      refine awp_seq_k fun K1 hK1 => ?_
      refine awp_block ?_   -- 1
      refine awp_seq_k fun K2 hK2 => ?_
      refine awp_region (Θ := Θ) (Γ := Γ) [0, 4, 22, 23] ΘOK ΓOK rfl ?_
      repeat' (first
        | (with_reducible refine arun_nil ?_)
        | ((with_reducible apply arun_any); (focus exact rfl); (focus (simp (disch := first | assumption | (with_reducible exact okL_limbs _) | omega) only [go_sem, ↓reduceIte, Nat.reduceEqDiff, reduceCtorEq, Nat.reduceAdd]; with_reducible exact rfl)); with_reducible (first | refine okk_some ?_ | (refine okk_ite ?_ ?_; (focus omega)) | (refine okk_ifn ?_ ?_; (focus omega)))))
      all_goals (simp only [go_sem, ↓reduceIte, Nat.reduceEqDiff, reduceCtorEq, Nat.reduceAdd]; refine hK2 _ ?_; clear hK2 K2)
      have hx := hDr i
      generalize hxe : D.getD i 0 = x at *
      have bad : digitB x = false → pOK D = false := fun h => not_digits hi (by rw [hxe]; exact h)
      have good : digitB x = true → ∀ k, k < i + 1 → digitB (D.getD k 0) = true := fun h k hk => by
        by_cases hki : k = i
        · subst hki; rw [hxe]; exact h
        · exact h2 k (by omega)
      by_cases hlo : x < 48
      ·
        have hd : decide (x < 48) = true := by simpa using hlo
        refine awp_seq_k fun K2 hK2 => ?_
        refine awp_region (Θ := Θ) (Γ := Γ) [0, 22, 23, 35] ΘOK ΓOK rfl ?_
        repeat' (first
          | (with_reducible refine arun_nil ?_)
          | ((with_reducible apply arun_any); (focus exact rfl); (focus (simp (disch := first | assumption | (with_reducible exact okL_limbs _) | omega) only [go_sem, ↓reduceIte, Nat.reduceEqDiff, reduceCtorEq, Nat.reduceAdd, hD, hxe, hd]; with_reducible exact rfl)); with_reducible (first | refine okk_some ?_ | (refine okk_ite ?_ ?_; (focus omega)) | (refine okk_ifn ?_ ?_; (focus omega))))
          | ((with_reducible apply arun_gyes); (focus exact rfl); (focus (simp only [go_sem, ↓reduceIte, Nat.reduceEqDiff, reduceCtorEq, Nat.reduceAdd, hD, hxe, hd]; with_reducible exact rfl)); (focus first | assumption | exact rfl))
          | ((with_reducible apply arun_gundef); (focus exact rfl); (focus (simp only [go_sem, ↓reduceIte, Nat.reduceEqDiff, reduceCtorEq, Nat.reduceAdd, hD, hxe, hd]; done)))
          | ((with_reducible apply arun_gno); (focus exact rfl); (focus (simp only [go_sem, ↓reduceIte, Nat.reduceEqDiff, reduceCtorEq, Nat.reduceAdd, hD, hxe, hd]; with_reducible exact rfl)); (focus first | assumption | exact rfl))
          | ((with_reducible apply arun_guard); (focus exact rfl); (focus (simp only [go_sem, ↓reduceIte, Nat.reduceEqDiff, reduceCtorEq, Nat.reduceAdd, hD, hxe, hd]; with_reducible exact rfl)); (focus intro hb); rotate_left; (focus intro hb); rotate_right))
        all_goals (simp only [go_sem, ↓reduceIte, Nat.reduceEqDiff, reduceCtorEq, Nat.reduceAdd]; refine hK2 _ ?_; clear hK2 K2)
        apply awp_cond
        (focus (simp only [go_sem, ↓reduceIte, Nat.reduceEqDiff, reduceCtorEq, Nat.reduceAdd]; exact rfl))
        all_goals intro hc
        ·
          refine awp_seq_k fun K2 hK2 => ?_
          refine awp_region (Θ := Θ) (Γ := Γ) [2, 3] ΘOK ΓOK rfl ?_
          repeat' (first
            | (with_reducible refine arun_nil ?_)
            | ((with_reducible apply arun_any); (focus exact rfl); (focus (simp (disch := first | assumption | (with_reducible exact okL_limbs _) | omega) only [go_sem, ↓reduceIte, Nat.reduceEqDiff, reduceCtorEq, Nat.reduceAdd]; with_reducible exact rfl)); with_reducible (first | refine okk_some ?_ | (refine okk_ite ?_ ?_; (focus omega)) | (refine okk_ifn ?_ ?_; (focus omega)))))
          all_goals (simp only [go_sem, ↓reduceIte, Nat.reduceEqDiff, reduceCtorEq, Nat.reduceAdd]; refine hK2 _ ?_; clear hK2 K2)
          refine awp_ret ?_
          have hb := bad (by unfold digitB; simp; omega)
          simp only [go_sem, ↓reduceIte, Nat.reduceEqDiff, reduceCtorEq, Nat.reduceAdd, Res, rParse, hb, Bool.false_eq_true]
        · cases hc
      ·
        have hd : decide (x < 48) = false := by simpa using hlo
        refine awp_seq_k fun K2 hK2 => ?_
        refine awp_region (Θ := Θ) (Γ := Γ) [0, 22, 23, 35] ΘOK ΓOK rfl ?_
        repeat' (first
          | (with_reducible refine arun_nil ?_)
          | ((with_reducible apply arun_any); (focus exact rfl); (focus (simp (disch := first | assumption | (with_reducible exact okL_limbs _) | omega) only [go_sem, ↓reduceIte, Nat.reduceEqDiff, reduceCtorEq, Nat.reduceAdd, hD, hxe, hd]; with_reducible exact rfl)); with_reducible (first | refine okk_some ?_ | (refine okk_ite ?_ ?_; (focus omega)) | (refine okk_ifn ?_ ?_; (focus omega))))
          | ((with_reducible apply arun_gyes); (focus exact rfl); (focus (simp only [go_sem, ↓reduceIte, Nat.reduceEqDiff, reduceCtorEq, Nat.reduceAdd, hD, hxe, hd]; with_reducible exact rfl)); (focus first | assumption | exact rfl))
          | ((with_reducible apply arun_gundef); (focus exact rfl); (focus (simp only [go_sem, ↓reduceIte, Nat.reduceEqDiff, reduceCtorEq, Nat.reduceAdd, hD, hxe, hd]; done)))
          | ((with_reducible apply arun_gno); (focus exact rfl); (focus (simp only [go_sem, ↓reduceIte, Nat.reduceEqDiff, reduceCtorEq, Nat.reduceAdd, hD, hxe, hd]; with_reducible exact rfl)); (focus first | assumption | exact rfl))
          | ((with_reducible apply arun_guard); (focus exact rfl); (focus (simp only [go_sem, ↓reduceIte, Nat.reduceEqDiff, reduceCtorEq, Nat.reduceAdd, hD, hxe, hd]; with_reducible exact rfl)); (focus intro hb); rotate_left; (focus intro hb); rotate_right))
        all_goals (simp only [go_sem, ↓reduceIte, Nat.reduceEqDiff, reduceCtorEq, Nat.reduceAdd]; refine hK2 _ ?_; clear hK2 K2)
        apply awp_cond
        (focus (simp only [go_sem, ↓reduceIte, Nat.reduceEqDiff, reduceCtorEq, Nat.reduceAdd]; exact rfl))
        all_goals intro hc
        ·
          refine awp_seq_k fun K2 hK2 => ?_
          refine awp_region (Θ := Θ) (Γ := Γ) [2, 3] ΘOK ΓOK rfl ?_
          repeat' (first
            | (with_reducible refine arun_nil ?_)
            | ((with_reducible apply arun_any); (focus exact rfl); (focus (simp (disch := first | assumption | (with_reducible exact okL_limbs _) | omega) only [go_sem, ↓reduceIte, Nat.reduceEqDiff, reduceCtorEq, Nat.reduceAdd]; with_reducible exact rfl)); with_reducible (first | refine okk_some ?_ | (refine okk_ite ?_ ?_; (focus omega)) | (refine okk_ifn ?_ ?_; (focus omega)))))
          all_goals (simp only [go_sem, ↓reduceIte, Nat.reduceEqDiff, reduceCtorEq, Nat.reduceAdd]; refine hK2 _ ?_; clear hK2 K2)
          refine awp_ret ?_
          have hb := bad (by unfold digitB; simp at hc ⊢; omega)
          simp only [go_sem, ↓reduceIte, Nat.reduceEqDiff, reduceCtorEq, Nat.reduceAdd, Res, rParse, hb, Bool.false_eq_true]
        ·
          refine awp_skip ?_
          refine hK1 _ ?_; clear hK1 K1
          refine awp_region (Θ := Θ) (Γ := Γ) [0, 22, 23] ΘOK ΓOK rfl ?_
          repeat' (first
            | (with_reducible refine arun_nil ?_)
            | ((with_reducible apply arun_any); (focus exact rfl); (focus (simp (disch := first | assumption | (with_reducible exact okL_limbs _) | omega) only [go_sem, ↓reduceIte, Nat.reduceEqDiff, reduceCtorEq, Nat.reduceAdd]; with_reducible exact rfl)); with_reducible (first | refine okk_some ?_ | (refine okk_ite ?_ ?_; (focus omega)) | (refine okk_ifn ?_ ?_; (focus omega)))))
          all_goals (simp only [go_sem, ↓reduceIte, Nat.reduceEqDiff, reduceCtorEq, Nat.reduceAdd])
          refine ⟨i + 1, ⟨by omega, good (by unfold digitB; simp at hc ⊢; omega)⟩, ?_, by omega⟩
          ·
            first | (simp [agree_cons, agree_nil, slook_cons, vInt]; done) | (simp [agree_cons, agree_nil, slook_cons, vInt]; omega) | (simp [agree_cons, agree_nil, slook_cons, vInt]; grind)
    ·
      have hi : i = D.length := by simp at hc; omega
      subst hi
      clear hc
      refine awp_exit ?_   -- exit 0
      simp only [Nat.reduceEqDiff, ↓reduceIte]
      refine hK0 _ ?_; clear hK0 K0 hK1 K1
      have hok : pOK D = true := by
        unfold pOK
        rw [all_digits h2, Bool.and_true]
        have e1 : D.isEmpty = false := by simpa using hne
        rw [e1]
        by_cases h0 : D.getD 0 0 = 48
        · rw [h48 h0]; rfl
        · have e2 : (D.getD 0 0 == 48) = false := by simpa using h0
          rw [e2]; rfl
      refine awp_seq_k fun K0 hK0 => ?_
      refine awp_seq_k fun K1 hK1 => ?_
      refine awp_region (Θ := Θ) (Γ := Γ) [0, 39] ΘOK ΓOK rfl ?_
      repeat' (first
        | (with_reducible refine arun_nil ?_)
        | ((with_reducible apply arun_any); (focus exact rfl); (focus (simp (disch := first | assumption | (with_reducible exact okL_limbs _) | omega) only [go_sem, ↓reduceIte, Nat.reduceEqDiff, reduceCtorEq, Nat.reduceAdd]; with_reducible exact rfl)); with_reducible (first | refine okk_some ?_ | (refine okk_ite ?_ ?_; (focus omega)) | (refine okk_ifn ?_ ?_; (focus omega)))))
      all_goals (simp only [go_sem, ↓reduceIte, Nat.reduceEqDiff, reduceCtorEq, Nat.reduceAdd]; refine hK1 _ ?_; clear hK1 K1)
      apply awp_cond
      (focus (simp only [go_sem, ↓reduceIte, Nat.reduceEqDiff, reduceCtorEq, Nat.reduceAdd]; exact rfl))
      all_goals intro hc
      ·
        have hlong : ¬ D.length ≤ 10000 := by simp at hc; omega
        refine awp_seq_k fun K1 hK1 => ?_
        refine awp_region (Θ := Θ) (Γ := Γ) [2, 3] ΘOK ΓOK rfl ?_
        repeat' (first
          | (with_reducible refine arun_nil ?_)
          | ((with_reducible apply arun_any); (focus exact rfl); (focus (simp (disch := first | assumption | (with_reducible exact okL_limbs _) | omega) only [go_sem, ↓reduceIte, Nat.reduceEqDiff, reduceCtorEq, Nat.reduceAdd]; with_reducible exact rfl)); with_reducible (first | refine okk_some ?_ | (refine okk_ite ?_ ?_; (focus omega)) | (refine okk_ifn ?_ ?_; (focus omega)))))
        all_goals (simp only [go_sem, ↓reduceIte, Nat.reduceEqDiff, reduceCtorEq, Nat.reduceAdd]; refine hK1 _ ?_; clear hK1 K1)
        refine awp_ret ?_
        simp only [go_sem, ↓reduceIte, Nat.reduceEqDiff, reduceCtorEq, Nat.reduceAdd, Res, rParse, hok, hlong]
      ·
        have hlong : D.length ≤ 10000 := by simp at hc; omega
        refine awp_skip ?_
        refine hK0 _ ?_; clear hK0 K0
        refine awp_seq_k fun K0 hK0 => ?_
        refine awp_region (Θ := Θ) (Γ := Γ) [0, 5] ΘOK ΓOK rfl ?_
        repeat' (first
          | (with_reducible refine arun_nil ?_)
          | ((with_reducible apply arun_any); (focus exact rfl); (focus (simp (disch := first | assumption | (with_reducible exact okL_limbs _) | omega) only [go_sem, ↓reduceIte, Nat.reduceEqDiff, reduceCtorEq, Nat.reduceAdd]; with_reducible exact rfl)); with_reducible (first | refine okk_some ?_ | (refine okk_ite ?_ ?_; (focus omega)) | (refine okk_ifn ?_ ?_; (focus omega)))))
        all_goals (simp only [go_sem, ↓reduceIte, Nat.reduceEqDiff, reduceCtorEq, Nat.reduceAdd]; refine hK0 _ ?_; clear hK0 K0)
        refine awp_seq_k fun K0 hK0 => ?_
        refine awp_seq_k fun K1 hK1 => ?_
        refine awp_region (Θ := Θ) (Γ := Γ) [0, 5, 42, 43] ΘOK ΓOK rfl ?_
        repeat' (first
          | (with_reducible refine arun_nil ?_)
          | ((with_reducible apply arun_any); (focus exact rfl); (focus (simp (disch := first | assumption | (with_reducible exact okL_limbs _) | omega) only [go_sem, ↓reduceIte, Nat.reduceEqDiff, reduceCtorEq, Nat.reduceAdd]; with_reducible exact rfl)); with_reducible (first | refine okk_some ?_ | (refine okk_ite ?_ ?_; (focus omega)) | (refine okk_ifn ?_ ?_; (focus omega)))))
        all_goals (simp only [go_sem, ↓reduceIte, Nat.reduceEqDiff, reduceCtorEq, Nat.reduceAdd]; refine hK1 _ ?_; clear hK1 K1)
        refine awp_block ?_   -- 2
        refine awp_loop_st (ι := Nat × List Int) (fun p => [(0, .val (.string s)), (5, .own 40), (42, vInt .i64 D.length), (43, vInt .i64 p.1)]) (fun p => [(40, ⟨48, 1, ints .u32 p.2, none⟩)]) (fun p => D.length - p.1)
          (fun p => p.1 ≤ D.length ∧ p.2 = limbs (pv (D.take p.1)) ∧ p.2.length ≤ p.1) (0, [])
          ⟨by omega, by simp [pv, limbs_zero], by simp⟩ (by simp [agree_cons, agree_nil, slook_cons, vInt]; omega) (by simp [ints]) ?_
        rintro ⟨i, O⟩ ⟨h1, h3, h4⟩
        simp only at h1 h3 h4 ⊢
        refine awp_seq_k fun K1 hK1 => ?_
        refine awp_region (Θ := Θ) (Γ := Γ) [0, 5, 42, 43, 44] ΘOK ΓOK rfl ?_
        repeat' (first
          | (with_reducible refine arun_nil ?_)
          | ((with_reducible apply arun_any); (focus exact rfl); (focus (simp (disch := first | assumption | (with_reducible exact okL_limbs _) | omega) only [go_sem, ↓reduceIte, Nat.reduceEqDiff, reduceCtorEq, Nat.reduceAdd]; with_reducible exact rfl)); with_reducible (first | refine okk_some ?_ | (refine okk_ite ?_ ?_; (focus omega)) | (refine okk_ifn ?_ ?_; (focus omega)))))
        all_goals (simp only [go_sem, ↓reduceIte, Nat.reduceEqDiff, reduceCtorEq, Nat.reduceAdd]; refine hK1 _ ?_; clear hK1 K1)
        refine awp_seq_k fun K1 hK1 => ?_
        apply awp_cond
        (focus (simp only [go_sem, ↓reduceIte, Nat.reduceEqDiff, reduceCtorEq, Nat.reduceAdd]; exact rfl))
        all_goals intro hc
        ·
          have hi : i < D.length := by simpa using hc
          clear hc
          refine awp_skip ?_
          refine hK1 _ ?_; clear hK1 K1
          refine awp_seq_k fun K1 hK1 => ?_
          have fin : ∀ (O2 : List Int) (σ : St), O2 = limbs (pv (D.take (i + 1))) → O2.length ≤ i + 1 → agree [(0, .val (.string s)), (5, .own 40), (42, vInt .i64 D.length), (43, vInt .i64 i)] σ.t → σ.h = hlook [(40, ⟨48, 1, ints .u32 O2, none⟩)] → K1 σ := by
            intro O2 σ ho1 ho2 hag hh
            refine hK1 σ ?_
            refine awp_forget _ hag ?_
            rw [hh]
            refine awp_region (Θ := Θ) (Γ := Γ) [0, 5, 42, 43] ΘOK ΓOK rfl ?_
            repeat' (first
              | (with_reducible refine arun_nil ?_)
              | ((with_reducible apply arun_any); (focus exact rfl); (focus (simp (disch := first | assumption | (with_reducible exact okL_limbs _) | omega) only [go_sem, ↓reduceIte, Nat.reduceEqDiff, reduceCtorEq, Nat.reduceAdd]; with_reducible exact rfl)); with_reducible (first | refine okk_some ?_ | (refine okk_ite ?_ ?_; (focus omega)) | (refine okk_ifn ?_ ?_; (focus omega)))))
            all_goals (simp only [go_sem, ↓reduceIte, Nat.reduceEqDiff, reduceCtorEq, Nat.reduceAdd])
            refine ⟨(i + 1, O2), ⟨by simp only; omega, ho1, ho2⟩, ?_, rfl, by simp only; omega⟩
            ·
              first | (simp [agree_cons, agree_nil, slook_cons, vInt]; done) | (simp [agree_cons, agree_nil, slook_cons, vInt]; omega) | (simp [agree_cons, agree_nil, slook_cons, vInt]; grind)
          refine awp_block ?_   -- 3
          refine awp_seq_k fun K2 hK2 => ?_
          refine awp_region (Θ := Θ) (Γ := Γ) [0, 5, 6, 42, 43] ΘOK ΓOK rfl ?_
          repeat' (first
            | (with_reducible refine arun_nil ?_)
            | ((with_reducible apply arun_any); (focus exact rfl); (focus (simp (disch := first | assumption | (with_reducible exact okL_limbs _) | omega) only [go_sem, ↓reduceIte, Nat.reduceEqDiff, reduceCtorEq, Nat.reduceAdd]; with_reducible exact rfl)); with_reducible (first | refine okk_some ?_ | (refine okk_ite ?_ ?_; (focus omega)) | (refine okk_ifn ?_ ?_; (focus omega)))))
          all_goals (simp only [go_sem, ↓reduceIte, Nat.reduceEqDiff, reduceCtorEq, Nat.reduceAdd]; refine hK2 _ ?_; clear hK2 K2)
          have hx := hDr i
          have hdg := h2 i hi
          have hpv := pv_take_succ D hi
          generalize hxe : D.getD i 0 = x at *
          obtain ⟨d, hd⟩ : ∃ d : Nat, (x - 48).toNat = d := ⟨_, rfl⟩
          have hd2 : (x - 48) % 256 = (d : Int) ∧ d ≤ 9 := by
            unfold digitB at hdg; simp at hdg; omega
          have hd3 := hd2.1
          rw [hd] at hpv
          refine awp_seq_k fun K2 hK2 => ?_
          refine awp_region (Θ := Θ) (Γ := Γ) [0, 5, 7, 42, 43] ΘOK ΓOK rfl ?_
          repeat' (first
            | (with_reducible refine arun_nil ?_)
            | ((with_reducible apply arun_any); (focus exact rfl); (focus (simp (disch := first | assumption | (with_reducible exact okL_limbs _) | omega) only [go_sem, ↓reduceIte, Nat.reduceEqDiff, reduceCtorEq, Nat.reduceAdd, hD, hxe, hd3]; with_reducible exact rfl)); with_reducible (first | refine okk_some ?_ | (refine okk_ite ?_ ?_; (focus omega)) | (refine okk_ifn ?_ ?_; (focus omega)))))
          all_goals (simp only [go_sem, ↓reduceIte, Nat.reduceEqDiff, reduceCtorEq, Nat.reduceAdd]; refine hK2 _ ?_; clear hK2 K2)
          refine awp_seq_k fun K2 hK2 => ?_
          refine awp_seq_k fun K3 hK3 => ?_
          refine awp_region (Θ := Θ) (Γ := Γ) [0, 5, 7, 42, 43, 51, 52, 53] ΘOK ΓOK rfl ?_
          repeat' (first
            | (with_reducible refine arun_nil ?_)
            | ((with_reducible apply arun_any); (focus exact rfl); (focus (simp (disch := first | assumption | (with_reducible exact okL_limbs _) | omega) only [go_sem, ↓reduceIte, Nat.reduceEqDiff, reduceCtorEq, Nat.reduceAdd]; with_reducible exact rfl)); with_reducible (first | refine okk_some ?_ | (refine okk_ite ?_ ?_; (focus omega)) | (refine okk_ifn ?_ ?_; (focus omega)))))
          all_goals (simp only [go_sem, ↓reduceIte, Nat.reduceEqDiff, reduceCtorEq, Nat.reduceAdd]; refine hK3 _ ?_; clear hK3 K3)
          have hO : okL O := by rw [h3]; exact okL_limbs _
          refine awp_block ?_   -- 4
          refine awp_loop_st (ι := Nat × List Int × Int) (fun p => [(0, .val (.string s)), (5, .own 40), (7, vInt .u64 p.2.2), (42, vInt .i64 D.length), (43, vInt .i64 i), (51, .own 40), (52, vInt .i64 O.length), (53, vInt .i64 p.1)]) (fun p => [(40, ⟨48, 1, ints .u32 p.2.1, none⟩)]) (fun p => O.length - p.1)
            (fun p => p.1 ≤ O.length ∧ okL p.2.1 ∧ p.2.1.length = O.length ∧ (0 ≤ p.2.2 ∧ p.2.2 ≤ 9) ∧ iv p.2.1 + W p.1 * p.2.2 = iv O + 9 * iv (O.take p.1) + d ∧ ∀ j, p.1 ≤ j → p.2.1.getD j 0 = O.getD j 0) (0, O, (d : Int))
            ⟨by omega, hO, rfl, by simp only; omega, by simp [W_zero, iv_nil], fun j _ => rfl⟩ (by simp [agree_cons, agree_nil, slook_cons, vInt]) rfl ?_
          rintro ⟨k, Q, c⟩ ⟨g1, g2, g3, g4, g5, g6⟩
          simp only at g1 g2 g3 g4 g5 g6 ⊢
          refine awp_seq_k fun K3 hK3 => ?_
          refine awp_region (Θ := Θ) (Γ := Γ) [0, 5, 7, 42, 43, 51, 52, 53, 54] ΘOK ΓOK rfl ?_
          repeat' (first
            | (with_reducible refine arun_nil ?_)
            | ((with_reducible apply arun_any); (focus exact rfl); (focus (simp (disch := first | assumption | (with_reducible exact okL_limbs _) | omega) only [go_sem, ↓reduceIte, Nat.reduceEqDiff, reduceCtorEq, Nat.reduceAdd]; with_reducible exact rfl)); with_reducible (first | refine okk_some ?_ | (refine okk_ite ?_ ?_; (focus omega)) | (refine okk_ifn ?_ ?_; (focus omega)))))
          all_goals (simp only [go_sem, ↓reduceIte, Nat.reduceEqDiff, reduceCtorEq, Nat.reduceAdd]; refine hK3 _ ?_; clear hK3 K3)
          refine awp_seq_k fun K3 hK3 => ?_
          apply awp_cond
          (focus (simp only [go_sem, ↓reduceIte, Nat.reduceEqDiff, reduceCtorEq, Nat.reduceAdd]; exact rfl))
          all_goals intro hc
          ·
            have hk : k < O.length := by simpa using hc
            clear hc
            refine awp_skip ?_
            refine hK3 _ ?_; clear hK3 K3
            have hst := parse_step hO g2 (by omega) (g6 k (Nat.le_refl _)) g4.1 g5
            have hy := okL_get hO k
            have hqk := g6 k (Nat.le_refl _)
            generalize hye : O.getD k 0 = y at *
            refine awp_seq_k fun K3 hK3 => ?_
            refine awp_block ?_   -- 5
            refine awp_seq_k fun K4 hK4 => ?_
            refine awp_region (Θ := Θ) (Γ := Γ) [0, 5, 7, 8, 9, 42, 43, 51, 52, 53] ΘOK ΓOK rfl ?_
            repeat' (first
              | (with_reducible refine arun_nil ?_)
              | ((with_reducible apply arun_any); (focus exact rfl); (focus (simp (disch := first | assumption | (with_reducible exact okL_limbs _) | omega) only [go_sem, ↓reduceIte, Nat.reduceEqDiff, reduceCtorEq, Nat.reduceAdd, hqk]; with_reducible exact rfl)); with_reducible (first | refine okk_some ?_ | (refine okk_ite ?_ ?_; (focus omega)) | (refine okk_ifn ?_ ?_; (focus omega)))))
            all_goals (simp only [go_sem, ↓reduceIte, Nat.reduceEqDiff, reduceCtorEq, Nat.reduceAdd]; refine hK4 _ ?_; clear hK4 K4)
            refine awp_seq_k fun K4 hK4 => ?_
            refine awp_region (Θ := Θ) (Γ := Γ) [0, 5, 7, 8, 42, 43, 51, 52, 53] ΘOK ΓOK rfl ?_
            repeat' (first
              | (with_reducible refine arun_nil ?_)
              | ((with_reducible apply arun_any); (focus exact rfl); (focus (simp (disch := first | assumption | (with_reducible exact okL_limbs _) | omega) only [go_sem, ↓reduceIte, Nat.reduceEqDiff, reduceCtorEq, Nat.reduceAdd, hqk]; with_reducible exact rfl)); with_reducible (first | refine okk_some ?_ | (refine okk_ite ?_ ?_; (focus omega)) | (refine okk_ifn ?_ ?_; (focus omega)))))
            all_goals (simp only [go_sem, ↓reduceIte, Nat.reduceEqDiff, reduceCtorEq, Nat.reduceAdd]; refine hK4 _ ?_; clear hK4 K4)
            refine awp_seq_k fun K4 hK4 => ?_
            refine awp_region (Θ := Θ) (Γ := Γ) [0, 5, 7, 42, 43, 51, 52, 53] ΘOK ΓOK rfl ?_
            repeat' (first
              | (with_reducible refine arun_nil ?_)
              | ((with_reducible apply arun_any); (focus exact rfl); (focus (simp (disch := first | assumption | (with_reducible exact okL_limbs _) | omega) only [go_sem, ↓reduceIte, Nat.reduceEqDiff, reduceCtorEq, Nat.reduceAdd, hqk]; with_reducible exact rfl)); with_reducible (first | refine okk_some ?_ | (refine okk_ite ?_ ?_; (focus omega)) | (refine okk_ifn ?_ ?_; (focus omega)))))
            all_goals (simp only [go_sem, ↓reduceIte, Nat.reduceEqDiff, reduceCtorEq, Nat.reduceAdd]; refine hK4 _ ?_; clear hK4 K4)
            refine awp_region (Θ := Θ) (Γ := Γ) [0, 5, 7, 42, 43, 51, 52, 53] ΘOK ΓOK rfl ?_
            repeat' (first
              | (with_reducible refine arun_nil ?_)
              | ((with_reducible apply arun_any); (focus exact rfl); (focus (simp (disch := first | assumption | (with_reducible exact okL_limbs _) | omega) only [go_sem, ↓reduceIte, Nat.reduceEqDiff, reduceCtorEq, Nat.reduceAdd, hqk]; with_reducible exact rfl)); with_reducible (first | refine okk_some ?_ | (refine okk_ite ?_ ?_; (focus omega)) | (refine okk_ifn ?_ ?_; (focus omega)))))
            all_goals (simp only [go_sem, ↓reduceIte, Nat.reduceEqDiff, reduceCtorEq, Nat.reduceAdd])
            refine hK3 _ ?_; clear hK3 K3
            refine awp_region (Θ := Θ) (Γ := Γ) [0, 5, 7, 42, 43, 51, 52, 53] ΘOK ΓOK rfl ?_
            repeat' (first
              | (with_reducible refine arun_nil ?_)
              | ((with_reducible apply arun_any); (focus exact rfl); (focus (simp (disch := first | assumption | (with_reducible exact okL_limbs _) | omega) only [go_sem, ↓reduceIte, Nat.reduceEqDiff, reduceCtorEq, Nat.reduceAdd, hqk]; with_reducible exact rfl)); with_reducible (first | refine okk_some ?_ | (refine okk_ite ?_ ?_; (focus omega)) | (refine okk_ifn ?_ ?_; (focus omega)))))
            all_goals (simp only [go_sem, ↓reduceIte, Nat.reduceEqDiff, reduceCtorEq, Nat.reduceAdd])
            refine ⟨(k + 1, Q.set k ((c + y * 10) % 4294967296), (c + y * 10) / 4294967296), ⟨by simp only; omega, okL_set g2 _ (by omega), by simpa using g3, by simp only; omega, hst, fun j hj => ?_⟩, ?_, rfl, by simp only; omega⟩
            ·
              simp only at hj ⊢
              rw [getD_set, if_neg (by omega)]
              exact g6 j (by omega)
            ·
              first | (simp [agree_cons, agree_nil, slook_cons, vInt]; done) | (simp [agree_cons, agree_nil, slook_cons, vInt]; omega) | (simp [agree_cons, agree_nil, slook_cons, vInt]; grind)
          ·
            have hk : k = O.length := by simp at hc; omega
            subst hk
            clear hc
            refine awp_exit ?_   -- exit 4
            simp only [Nat.reduceEqDiff, ↓reduceIte]
            refine hK2 _ ?_; clear hK2 K2 hK3 K3
            obtain ⟨e1, e2⟩ := parse_end h3 g2 g3 g4 g5
            rw [← hpv] at e1 e2
            refine awp_seq_k fun K2 hK2 => ?_
            refine awp_region (Θ := Θ) (Γ := Γ) [0, 5, 7, 42, 43, 72] ΘOK ΓOK rfl ?_
            repeat' (first
              | (with_reducible refine arun_nil ?_)
              | ((with_reducible apply arun_any); (focus exact rfl); (focus (simp (disch := first | assumption | (with_reducible exact okL_limbs _) | omega) only [go_sem, ↓reduceIte, Nat.reduceEqDiff, reduceCtorEq, Nat.reduceAdd]; with_reducible exact rfl)); with_reducible (first | refine okk_some ?_ | (refine okk_ite ?_ ?_; (focus omega)) | (refine okk_ifn ?_ ?_; (focus omega)))))
            all_goals (simp only [go_sem, ↓reduceIte, Nat.reduceEqDiff, reduceCtorEq, Nat.reduceAdd]; refine hK2 _ ?_; clear hK2 K2)
            apply awp_cond
            (focus (simp only [go_sem, ↓reduceIte, Nat.reduceEqDiff, reduceCtorEq, Nat.reduceAdd]; exact rfl))
            all_goals intro hc
            ·
              have h0 : 0 < c := by simpa using hc
              have e3 : c % 4294967296 = c := by omega
              refine awp_region (Θ := Θ) (Γ := Γ) [0, 5, 42, 43] ΘOK ΓOK rfl ?_
              repeat' (first
                | (with_reducible refine arun_nil ?_)
                | ((with_reducible apply arun_any); (focus exact rfl); (focus (simp (disch := first | assumption | (with_reducible exact okL_limbs _) | omega) only [go_sem, ↓reduceIte, Nat.reduceEqDiff, reduceCtorEq, Nat.reduceAdd, e3]; with_reducible exact rfl)); with_reducible (first | refine okk_some ?_ | (refine okk_ite ?_ ?_; (focus omega)) | (refine okk_ifn ?_ ?_; (focus omega)))))
              all_goals (simp only [go_sem, ↓reduceIte, Nat.reduceEqDiff, reduceCtorEq, Nat.reduceAdd])
              refine fin (Q ++ [c]) _ (e2 h0) (by simp; omega) ?_ rfl
              ·
                first | (simp [agree_cons, agree_nil, slook_cons, vInt]; done) | (simp [agree_cons, agree_nil, slook_cons, vInt]; omega) | (simp [agree_cons, agree_nil, slook_cons, vInt]; grind)
            ·
              have h0 : c ≤ 0 := by simpa using hc
              refine awp_skip ?_
              refine fin Q _ (e1 h0) (by omega) ?_ rfl
              ·
                first | (simp [agree_cons, agree_nil, slook_cons, vInt]; done) | (simp [agree_cons, agree_nil, slook_cons, vInt]; omega) | (simp [agree_cons, agree_nil, slook_cons, vInt]; grind)
        ·
          have hi : i = D.length := by simp at hc; omega
          subst hi
          rw [List.take_length] at h3
          subst h3
          refine awp_exit ?_   -- exit 2
          simp only [Nat.reduceEqDiff, ↓reduceIte]
          refine hK0 _ ?_; clear hK0 K0 hK1 K1
          refine awp_seq_k fun K0 hK0 => ?_
          refine awp_region (Θ := Θ) (Γ := Γ) [2, 3] ΘOK ΓOK rfl ?_
          repeat' (first
            | (with_reducible refine arun_nil ?_)
            | ((with_reducible apply arun_any); (focus exact rfl); (focus (simp (disch := first | assumption | (with_reducible exact okL_limbs _) | omega) only [go_sem, ↓reduceIte, Nat.reduceEqDiff, reduceCtorEq, Nat.reduceAdd]; with_reducible exact rfl)); with_reducible (first | refine okk_some ?_ | (refine okk_ite ?_ ?_; (focus omega)) | (refine okk_ifn ?_ ?_; (focus omega)))))
          all_goals (simp only [go_sem, ↓reduceIte, Nat.reduceEqDiff, reduceCtorEq, Nat.reduceAdd]; refine hK0 _ ?_; clear hK0 K0)
          refine awp_ret ?_
          simp only [go_sem, ↓reduceIte, Nat.reduceEqDiff, reduceCtorEq, Nat.reduceAdd, Res, rParse, hok, hlong]
  by_cases hne : D = []
  ·
    have hd : decide (D = []) = true := by simpa using hne
    refine awp_seq_k fun K1 hK1 => ?_
    refine awp_region (Θ := Θ) (Γ := Γ) [0, 20] ΘOK ΓOK rfl ?_
    repeat' (first
      | (with_reducible refine arun_nil ?_)
      | ((with_reducible apply arun_any); (focus exact rfl); (focus (simp (disch := first | assumption | (with_reducible exact okL_limbs _) | omega) only [go_sem, ↓reduceIte, Nat.reduceEqDiff, reduceCtorEq, Nat.reduceAdd, beq_str, hD, bytes_empty, hd]; with_reducible exact rfl)); with_reducible (first | refine okk_some ?_ | (refine okk_ite ?_ ?_; (focus omega)) | (refine okk_ifn ?_ ?_; (focus omega))))
      | ((with_reducible apply arun_gyes); (focus exact rfl); (focus (simp only [go_sem, ↓reduceIte, Nat.reduceEqDiff, reduceCtorEq, Nat.reduceAdd, beq_str, hD, bytes_empty, hd]; with_reducible exact rfl)); (focus first | assumption | exact rfl))
      | ((with_reducible apply arun_gundef); (focus exact rfl); (focus (simp only [go_sem, ↓reduceIte, Nat.reduceEqDiff, reduceCtorEq, Nat.reduceAdd, beq_str, hD, bytes_empty, hd]; done)))
      | ((with_reducible apply arun_gno); (focus exact rfl); (focus (simp only [go_sem, ↓reduceIte, Nat.reduceEqDiff, reduceCtorEq, Nat.reduceAdd, beq_str, hD, bytes_empty, hd]; with_reducible exact rfl)); (focus first | assumption | exact rfl))
      | ((with_reducible apply arun_guard); (focus exact rfl); (focus (simp only [go_sem, ↓reduceIte, Nat.reduceEqDiff, reduceCtorEq, Nat.reduceAdd, beq_str, hD, bytes_empty, hd]; with_reducible exact rfl)); (focus intro hb); rotate_left; (focus intro hb); rotate_right))
    all_goals (simp only [go_sem, ↓reduceIte, Nat.reduceEqDiff, reduceCtorEq, Nat.reduceAdd]; refine hK1 _ ?_; clear hK1 K1)
    apply awp_cond
    (focus (simp only [go_sem, ↓reduceIte, Nat.reduceEqDiff, reduceCtorEq, Nat.reduceAdd]; exact rfl))
    all_goals intro hc
    ·
      refine awp_seq_k fun K1 hK1 => ?_
      refine awp_region (Θ := Θ) (Γ := Γ) [2, 3] ΘOK ΓOK rfl ?_
      repeat' (first
        | (with_reducible refine arun_nil ?_)
        | ((with_reducible apply arun_any); (focus exact rfl); (focus (simp (disch := first | assumption | (with_reducible exact okL_limbs _) | omega) only [go_sem, ↓reduceIte, Nat.reduceEqDiff, reduceCtorEq, Nat.reduceAdd]; with_reducible exact rfl)); with_reducible (first | refine okk_some ?_ | (refine okk_ite ?_ ?_; (focus omega)) | (refine okk_ifn ?_ ?_; (focus omega)))))
      all_goals (simp only [go_sem, ↓reduceIte, Nat.reduceEqDiff, reduceCtorEq, Nat.reduceAdd]; refine hK1 _ ?_; clear hK1 K1)
      refine awp_ret ?_
      simp only [go_sem, ↓reduceIte, Nat.reduceEqDiff, reduceCtorEq, Nat.reduceAdd, Res, rParse, hne, pOK, List.isEmpty_nil]
      rfl
    · cases hc
  ·
    have hd : decide (D = []) = false := by simpa using hne
    have hlen : 0 < D.length := List.length_pos_iff.2 hne
    by_cases h48 : D.getD 0 0 = 48
    ·
      have hd2 : (D.getD 0 0 == 48) = true := by simpa using h48
      by_cases hone : D = [48]
      ·
        have hd3 : decide (D = [48]) = true := by simpa using hone
        refine awp_seq_k fun K1 hK1 => ?_
        refine awp_region (Θ := Θ) (Γ := Γ) [0, 20] ΘOK ΓOK rfl ?_
        repeat' (first
          | (with_reducible refine arun_nil ?_)
          | ((with_reducible apply arun_any); (focus exact rfl); (focus (simp (disch := first | assumption | (with_reducible exact okL_limbs _) | omega) only [go_sem, ↓reduceIte, Nat.reduceEqDiff, reduceCtorEq, Nat.reduceAdd, beq_str, hD, bytes_empty, hd, hd2, hd3, bytes_48]; with_reducible exact rfl)); with_reducible (first | refine okk_some ?_ | (refine okk_ite ?_ ?_; (focus omega)) | (refine okk_ifn ?_ ?_; (focus omega))))
          | ((with_reducible apply arun_gyes); (focus exact rfl); (focus (simp only [go_sem, ↓reduceIte, Nat.reduceEqDiff, reduceCtorEq, Nat.reduceAdd, beq_str, hD, bytes_empty, hd, hd2, hd3, bytes_48]; with_reducible exact rfl)); (focus first | assumption | exact rfl))
          | ((with_reducible apply arun_gundef); (focus exact rfl); (focus (simp only [go_sem, ↓reduceIte, Nat.reduceEqDiff, reduceCtorEq, Nat.reduceAdd, beq_str, hD, bytes_empty, hd, hd2, hd3, bytes_48]; done)))
          | ((with_reducible apply arun_gno); (focus exact rfl); (focus (simp only [go_sem, ↓reduceIte, Nat.reduceEqDiff, reduceCtorEq, Nat.reduceAdd, beq_str, hD, bytes_empty, hd, hd2, hd3, bytes_48]; with_reducible exact rfl)); (focus first | assumption | exact rfl))
          | ((with_reducible apply arun_guard); (focus exact rfl); (focus (simp only [go_sem, ↓reduceIte, Nat.reduceEqDiff, reduceCtorEq, Nat.reduceAdd, beq_str, hD, bytes_empty, hd, hd2, hd3, bytes_48]; with_reducible exact rfl)); (focus intro hb); rotate_left; (focus intro hb); rotate_right))
        all_goals (simp only [go_sem, ↓reduceIte, Nat.reduceEqDiff, reduceCtorEq, Nat.reduceAdd]; refine hK1 _ ?_; clear hK1 K1)
        apply awp_cond
        (focus (simp only [go_sem, ↓reduceIte, Nat.reduceEqDiff, reduceCtorEq, Nat.reduceAdd]; exact rfl))
        all_goals intro hc
        · cases hc
        ·
          refine awp_skip ?_
          refine rest hne (fun _ => hone) _ ?_ rfl
          first | (simp [agree_cons, agree_nil, slook_cons, vInt]; done) | (simp [agree_cons, agree_nil, slook_cons, vInt]; omega) | (simp [agree_cons, agree_nil, slook_cons, vInt]; grind)
      ·
        have hd3 : decide (D = [48]) = false := by simpa using hone
        refine awp_seq_k fun K1 hK1 => ?_
        refine awp_region (Θ := Θ) (Γ := Γ) [0, 20] ΘOK ΓOK rfl ?_
        repeat' (first
          | (with_reducible refine arun_nil ?_)
          | ((with_reducible apply arun_any); (focus exact rfl); (focus (simp (disch := first | assumption | (with_reducible exact okL_limbs _) | omega) only [go_sem, ↓reduceIte, Nat.reduceEqDiff, reduceCtorEq, Nat.reduceAdd, beq_str, hD, bytes_empty, hd, hd2, hd3, bytes_48]; with_reducible exact rfl)); with_reducible (first | refine okk_some ?_ | (refine okk_ite ?_ ?_; (focus omega)) | (refine okk_ifn ?_ ?_; (focus omega))))
          | ((with_reducible apply arun_gyes); (focus exact rfl); (focus (simp only [go_sem, ↓reduceIte, Nat.reduceEqDiff, reduceCtorEq, Nat.reduceAdd, beq_str, hD, bytes_empty, hd, hd2, hd3, bytes_48]; with_reducible exact rfl)); (focus first | assumption | exact rfl))
          | ((with_reducible apply arun_gundef); (focus exact rfl); (focus (simp only [go_sem, ↓reduceIte, Nat.reduceEqDiff, reduceCtorEq, Nat.reduceAdd, beq_str, hD, bytes_empty, hd, hd2, hd3, bytes_48]; done)))
          | ((with_reducible apply arun_gno); (focus exact rfl); (focus (simp only [go_sem, ↓reduceIte, Nat.reduceEqDiff, reduceCtorEq, Nat.reduceAdd, beq_str, hD, bytes_empty, hd, hd2, hd3, bytes_48]; with_reducible exact rfl)); (focus first | assumption | exact rfl))
          | ((with_reducible apply arun_guard); (focus exact rfl); (focus (simp only [go_sem, ↓reduceIte, Nat.reduceEqDiff, reduceCtorEq, Nat.reduceAdd, beq_str, hD, bytes_empty, hd, hd2, hd3, bytes_48]; with_reducible exact rfl)); (focus intro hb); rotate_left; (focus intro hb); rotate_right))
        all_goals (simp only [go_sem, ↓reduceIte, Nat.reduceEqDiff, reduceCtorEq, Nat.reduceAdd]; refine hK1 _ ?_; clear hK1 K1)
        apply awp_cond
        (focus (simp only [go_sem, ↓reduceIte, Nat.reduceEqDiff, reduceCtorEq, Nat.reduceAdd]; exact rfl))
        all_goals intro hc
        ·
          have hb : pOK D = false := by
            have e : (D == [48]) = false := by simpa using hone
            unfold pOK
            rw [hd2, e]; simp
          refine awp_seq_k fun K1 hK1 => ?_
          refine awp_region (Θ := Θ) (Γ := Γ) [2, 3] ΘOK ΓOK rfl ?_
          repeat' (first
            | (with_reducible refine arun_nil ?_)
            | ((with_reducible apply arun_any); (focus exact rfl); (focus (simp (disch := first | assumption | (with_reducible exact okL_limbs _) | omega) only [go_sem, ↓reduceIte, Nat.reduceEqDiff, reduceCtorEq, Nat.reduceAdd]; with_reducible exact rfl)); with_reducible (first | refine okk_some ?_ | (refine okk_ite ?_ ?_; (focus omega)) | (refine okk_ifn ?_ ?_; (focus omega)))))
          all_goals (simp only [go_sem, ↓reduceIte, Nat.reduceEqDiff, reduceCtorEq, Nat.reduceAdd]; refine hK1 _ ?_; clear hK1 K1)
          refine awp_ret ?_
          simp only [go_sem, ↓reduceIte, Nat.reduceEqDiff, reduceCtorEq, Nat.reduceAdd, Res, rParse, hb, Bool.false_eq_true]
        · cases hc
    ·
      have hd2 : (D.getD 0 0 == 48) = false := by simpa using h48
      refine awp_seq_k fun K1 hK1 => ?_
      refine awp_region (Θ := Θ) (Γ := Γ) [0, 20] ΘOK ΓOK rfl ?_
      repeat' (first
        | (with_reducible refine arun_nil ?_)
        | ((with_reducible apply arun_any); (focus exact rfl); (focus (simp (disch := first | assumption | (with_reducible exact okL_limbs _) | omega) only [go_sem, ↓reduceIte, Nat.reduceEqDiff, reduceCtorEq, Nat.reduceAdd, beq_str, hD, bytes_empty, hd, hd2]; with_reducible exact rfl)); with_reducible (first | refine okk_some ?_ | (refine okk_ite ?_ ?_; (focus omega)) | (refine okk_ifn ?_ ?_; (focus omega))))
        | ((with_reducible apply arun_gyes); (focus exact rfl); (focus (simp only [go_sem, ↓reduceIte, Nat.reduceEqDiff, reduceCtorEq, Nat.reduceAdd, beq_str, hD, bytes_empty, hd, hd2]; with_reducible exact rfl)); (focus first | assumption | exact rfl))
        | ((with_reducible apply arun_gundef); (focus exact rfl); (focus (simp only [go_sem, ↓reduceIte, Nat.reduceEqDiff, reduceCtorEq, Nat.reduceAdd, beq_str, hD, bytes_empty, hd, hd2]; done)))
        | ((with_reducible apply arun_gno); (focus exact rfl); (focus (simp only [go_sem, ↓reduceIte, Nat.reduceEqDiff, reduceCtorEq, Nat.reduceAdd, beq_str, hD, bytes_empty, hd, hd2]; with_reducible exact rfl)); (focus first | assumption | exact rfl))
        | ((with_reducible apply arun_guard); (focus exact rfl); (focus (simp only [go_sem, ↓reduceIte, Nat.reduceEqDiff, reduceCtorEq, Nat.reduceAdd, beq_str, hD, bytes_empty, hd, hd2]; with_reducible exact rfl)); (focus intro hb); rotate_left; (focus intro hb); rotate_right))
      all_goals (simp only [go_sem, ↓reduceIte, Nat.reduceEqDiff, reduceCtorEq, Nat.reduceAdd]; refine hK1 _ ?_; clear hK1 K1)
      apply awp_cond
      (focus (simp only [go_sem, ↓reduceIte, Nat.reduceEqDiff, reduceCtorEq, Nat.reduceAdd]; exact rfl))
      all_goals intro hc
      · cases hc
      ·
        refine awp_skip ?_
        refine rest hne (fun h => absurd h h48) _ ?_ rfl
        first | (simp [agree_cons, agree_nil, slook_cons, vInt]; done) | (simp [agree_cons, agree_nil, slook_cons, vInt]; omega) | (simp [agree_cons, agree_nil, slook_cons, vInt]; grind)
end Parse
end Go.Proofs

namespace Go.Proofs
open Go.Abs Go.NatMath
set_option linter.unusedVariables false
set_option linter.unusedSimpArgs false

theorem one_of {D : List Int} (hl : D.length = 1) (h : D.getD 0 0 = 48) : D = [48] := by
  match D, hl with
  | [x], _ => simp at h; rw [h]

namespace RParse
def Γ : FuncId → Abs.Spec := fun _ => .none
theorem ΓOK : ∀ f, SpecOK Try.prog f (Γ f) := fun _ => trivial
theorem ok : PureOK Try.prog 42 spParse := by
  refine pure_of_awp (n := 81) [2, 3] Try.func42 rfl rfl rfl ?_
  intro M0 w0 args r h
  obtain ⟨s, rfl, hs, rfl⟩ := spParse_some h
  clear h
  refine ⟨by simp, ?_⟩
  have hDl := bytes_length s
  have hDr := bytes_getD_range s
  obtain ⟨D, hD⟩ : ∃ D, bys s = D := ⟨_, rfl⟩
  rw [hD] at hDl hDr ⊢
  refine awp_seq_k fun K0 hK0 => ?_
  refine awp_region (Θ := Θ) (Γ := Γ) [0] ΘOK ΓOK rfl ?_
  repeat' (first
    | (with_reducible refine arun_nil ?_)
    | ((with_reducible apply arun_any); (focus exact rfl); (focus (simp (disch := first | assumption | (with_reducible exact okL_limbs _) | omega) only [go_sem, ↓reduceIte, Nat.reduceEqDiff, reduceCtorEq, Nat.reduceAdd]; with_reducible exact rfl)); with_reducible (first | refine okk_some ?_ | (refine okk_ite ?_ ?_; (focus omega)) | (refine okk_ifn ?_ ?_; (focus omega)))))
  all_goals (simp only [go_sem, ↓reduceIte, Nat.reduceEqDiff, reduceCtorEq, Nat.reduceAdd]; refine hK0 _ ?_; clear hK0 K0)
  refine awp_seq_k fun K0 hK0 => ?_
  have rest : D ≠ [] → (D.getD 0 0 = 48 → D = [48]) → ∀ σ : St, agree [(0, .val (.string s))] σ.t → σ.h = hlook [] → K0 σ := by
    intro hne h48 σ hag hh
    refine hK0 σ ?_
    refine awp_forget _ hag ?_
    rw [hh]
    clear hag hh hK0 K0
    refine awp_seq_k fun K0 hK0 => ?_
    refine awp_seq_k fun K1 hK1 => ?_
    refine awp_region (Θ := Θ) (Γ := Γ) [0, 4] ΘOK ΓOK rfl ?_
    repeat' (first
      | (with_reducible refine arun_nil ?_)
      | ((with_reducible apply arun_any); (focus exact rfl); (focus (simp (disch := first | assumption | (with_reducible exact okL_limbs _) | omega) only [go_sem, ↓reduceIte, Nat.reduceEqDiff, reduceCtorEq, Nat.reduceAdd]; with_reducible exact rfl)); with_reducible (first | refine okk_some ?_ | (refine okk_ite ?_ ?_; (focus omega)) | (refine okk_ifn ?_ ?_; (focus omega)))))
    all_goals (simp only [go_sem, ↓reduceIte, Nat.reduceEqDiff, reduceCtorEq, Nat.reduceAdd]; refine hK1 _ ?_; clear hK1 K1)
    refine awp_block ?_   -- 0
    refine awp_loop_st (ι := Nat) (fun p => [(0, .val (.string s)), (4, vInt .i64 p)]) (fun p => []) (fun p => D.length - p)
      (fun p => p ≤ D.length ∧ ∀ k, k < p → digitB (D.getD k 0) = true) 0
      ⟨by omega, fun k hk => by omega⟩ (by simp [agree_cons, agree_nil, slook_cons, vInt]) (by simp) ?_
    rintro i ⟨h1, h2⟩
    refine awp_seq_k fun K1 hK1 => ?_
    refine awp_seq_k fun K2 hK2 => ?_
    refine awp_region (Θ := Θ) (Γ := Γ) [0, 4, 24] ΘOK ΓOK rfl ?_
    repeat' (first
      | (with_reducible refine arun_nil ?_)
      | ((with_reducible apply arun_any); (focus exact rfl); (focus (simp (disch := first | assumption | (with_reducible exact okL_limbs _) | omega) only [go_sem, ↓reduceIte, Nat.reduceEqDiff, reduceCtorEq, Nat.reduceAdd]; with_reducible exact rfl)); with_reducible (first | refine okk_some ?_ | (refine okk_ite ?_ ?_; (focus omega)) | (refine okk_ifn ?_ ?_; (focus omega)))))
    all_goals (simp only [go_sem, ↓reduceIte, Nat.reduceEqDiff, reduceCtorEq, Nat.reduceAdd]; refine hK2 _ ?_; clear hK2 K2)
    apply awp_cond
    (focus (simp only [go_sem, ↓reduceIte, Nat.reduceEqDiff, reduceCtorEq, Nat.reduceAdd]; exact rfl))
    all_goals intro hc
    ·
      have hi : i < D.length := by simp at hc; omega
      clear hc
      refine awp_skip ?_
      refine hK1 _ ?_; clear hK1 K1
      refine awp_seq_k fun K1 hK1 => ?_
      refine awp_block ?_   -- 1
      have hx := hDr i
      generalize hxe : D.getD i 0 = x at *
      have bad : digitB x = false → pOK D = false := fun h => not_digits hi (by rw [hxe]; exact h)
      have good : digitB x = true → ∀ k, k < i + 1 → digitB (D.getD k 0) = true := fun h k hk => by
        by_cases hki : k = i
        · subst hki; rw [hxe]; exact h
        · exact h2 k (by omega)
      by_cases hlo : x < 48
      ·
        have hd : decide (x < 48) = true := by simpa using hlo
        refine awp_seq_k fun K2 hK2 => ?_
        refine awp_region (Θ := Θ) (Γ := Γ) [0, 4, 36] ΘOK ΓOK rfl ?_
        repeat' (first
          | (with_reducible refine arun_nil ?_)
          | ((with_reducible apply arun_any); (focus exact rfl); (focus (simp (disch := first | assumption | (with_reducible exact okL_limbs _) | omega) only [go_sem, ↓reduceIte, Nat.reduceEqDiff, reduceCtorEq, Nat.reduceAdd, hD, hxe, hd]; with_reducible exact rfl)); with_reducible (first | refine okk_some ?_ | (refine okk_ite ?_ ?_; (focus omega)) | (refine okk_ifn ?_ ?_; (focus omega))))
          | ((with_reducible apply arun_gyes); (focus exact rfl); (focus (simp only [go_sem, ↓reduceIte, Nat.reduceEqDiff, reduceCtorEq, Nat.reduceAdd, hD, hxe, hd]; with_reducible exact rfl)); (focus first | assumption | exact rfl))
          | ((with_reducible apply arun_gundef); (focus exact rfl); (focus (simp only [go_sem, ↓reduceIte, Nat.reduceEqDiff, reduceCtorEq, Nat.reduceAdd, hD, hxe, hd]; done)))
          | ((with_reducible apply arun_gno); (focus exact rfl); (focus (simp only [go_sem, ↓reduceIte, Nat.reduceEqDiff, reduceCtorEq, Nat.reduceAdd, hD, hxe, hd]; with_reducible exact rfl)); (focus first | assumption | exact rfl))
          | ((with_reducible apply arun_guard); (focus exact rfl); (focus (simp only [go_sem, ↓reduceIte, Nat.reduceEqDiff, reduceCtorEq, Nat.reduceAdd, hD, hxe, hd]; with_reducible exact rfl)); (focus intro hb); rotate_left; (focus intro hb); rotate_right))
        all_goals (simp only [go_sem, ↓reduceIte, Nat.reduceEqDiff, reduceCtorEq, Nat.reduceAdd]; refine hK2 _ ?_; clear hK2 K2)
        apply awp_cond
        (focus (simp only [go_sem, ↓reduceIte, Nat.reduceEqDiff, reduceCtorEq, Nat.reduceAdd]; exact rfl))
        all_goals intro hc
        ·
          refine awp_seq_k fun K2 hK2 => ?_
          refine awp_region (Θ := Θ) (Γ := Γ) [2, 3] ΘOK ΓOK rfl ?_
          repeat' (first
            | (with_reducible refine arun_nil ?_)
            | ((with_reducible apply arun_any); (focus exact rfl); (focus (simp (disch := first | assumption | (with_reducible exact okL_limbs _) | omega) only [go_sem, ↓reduceIte, Nat.reduceEqDiff, reduceCtorEq, Nat.reduceAdd]; with_reducible exact rfl)); with_reducible (first | refine okk_some ?_ | (refine okk_ite ?_ ?_; (focus omega)) | (refine okk_ifn ?_ ?_; (focus omega)))))
          all_goals (simp only [go_sem, ↓reduceIte, Nat.reduceEqDiff, reduceCtorEq, Nat.reduceAdd]; refine hK2 _ ?_; clear hK2 K2)
          refine awp_ret ?_
          have hb := bad (by unfold digitB; simp; omega)
          simp only [go_sem, ↓reduceIte, Nat.reduceEqDiff, reduceCtorEq, Nat.reduceAdd, Res, rParse, hb, Bool.false_eq_true]
        · cases hc
      ·
        have hd : decide (x < 48) = false := by simpa using hlo
        refine awp_seq_k fun K2 hK2 => ?_
        refine awp_region (Θ := Θ) (Γ := Γ) [0, 4, 36] ΘOK ΓOK rfl ?_
        repeat' (first
          | (with_reducible refine arun_nil ?_)
          | ((with_reducible apply arun_any); (focus exact rfl); (focus (simp (disch := first | assumption | (with_reducible exact okL_limbs _) | omega) only [go_sem, ↓reduceIte, Nat.reduceEqDiff, reduceCtorEq, Nat.reduceAdd, hD, hxe, hd]; with_reducible exact rfl)); with_reducible (first | refine okk_some ?_ | (refine okk_ite ?_ ?_; (focus omega)) | (refine okk_ifn ?_ ?_; (focus omega))))
          | ((with_reducible apply arun_gyes); (focus exact rfl); (focus (simp only [go_sem, ↓reduceIte, Nat.reduceEqDiff, reduceCtorEq, Nat.reduceAdd, hD, hxe, hd]; with_reducible exact rfl)); (focus first | assumption | exact rfl))
          | ((with_reducible apply arun_gundef); (focus exact rfl); (focus (simp only [go_sem, ↓reduceIte, Nat.reduceEqDiff, reduceCtorEq, Nat.reduceAdd, hD, hxe, hd]; done)))
          | ((with_reducible apply arun_gno); (focus exact rfl); (focus (simp only [go_sem, ↓reduceIte, Nat.reduceEqDiff, reduceCtorEq, Nat.reduceAdd, hD, hxe, hd]; with_reducible exact rfl)); (focus first | assumption | exact rfl))
          | ((with_reducible apply arun_guard); (focus exact rfl); (focus (simp only [go_sem, ↓reduceIte, Nat.reduceEqDiff, reduceCtorEq, Nat.reduceAdd, hD, hxe, hd]; with_reducible exact rfl)); (focus intro hb); rotate_left; (focus intro hb); rotate_right))
        all_goals (simp only [go_sem, ↓reduceIte, Nat.reduceEqDiff, reduceCtorEq, Nat.reduceAdd]; refine hK2 _ ?_; clear hK2 K2)
        apply awp_cond
        (focus (simp only [go_sem, ↓reduceIte, Nat.reduceEqDiff, reduceCtorEq, Nat.reduceAdd]; exact rfl))
        all_goals intro hc
        ·
          refine awp_seq_k fun K2 hK2 => ?_
          refine awp_region (Θ := Θ) (Γ := Γ) [2, 3] ΘOK ΓOK rfl ?_
          repeat' (first
            | (with_reducible refine arun_nil ?_)
            | ((with_reducible apply arun_any); (focus exact rfl); (focus (simp (disch := first | assumption | (with_reducible exact okL_limbs _) | omega) only [go_sem, ↓reduceIte, Nat.reduceEqDiff, reduceCtorEq, Nat.reduceAdd]; with_reducible exact rfl)); with_reducible (first | refine okk_some ?_ | (refine okk_ite ?_ ?_; (focus omega)) | (refine okk_ifn ?_ ?_; (focus omega)))))
          all_goals (simp only [go_sem, ↓reduceIte, Nat.reduceEqDiff, reduceCtorEq, Nat.reduceAdd]; refine hK2 _ ?_; clear hK2 K2)
          refine awp_ret ?_
          have hb := bad (by unfold digitB; simp at hc ⊢; omega)
          simp only [go_sem, ↓reduceIte, Nat.reduceEqDiff, reduceCtorEq, Nat.reduceAdd, Res, rParse, hb, Bool.false_eq_true]
        ·
          refine awp_skip ?_
          refine hK1 _ ?_; clear hK1 K1
          refine awp_region (Θ := Θ) (Γ := Γ) [0, 4] ΘOK ΓOK rfl ?_
          repeat' (first
            | (with_reducible refine arun_nil ?_)
            | ((with_reducible apply arun_any); (focus exact rfl); (focus (simp (disch := first | assumption | (with_reducible exact okL_limbs _) | omega) only [go_sem, ↓reduceIte, Nat.reduceEqDiff, reduceCtorEq, Nat.reduceAdd]; with_reducible exact rfl)); with_reducible (first | refine okk_some ?_ | (refine okk_ite ?_ ?_; (focus omega)) | (refine okk_ifn ?_ ?_; (focus omega)))))
          all_goals (simp only [go_sem, ↓reduceIte, Nat.reduceEqDiff, reduceCtorEq, Nat.reduceAdd])
          refine ⟨i + 1, ⟨by omega, good (by unfold digitB; simp at hc ⊢; omega)⟩, ?_, by omega⟩
          ·
            first | (simp [agree_cons, agree_nil, slook_cons, vInt]; done) | (simp [agree_cons, agree_nil, slook_cons, vInt]; omega) | (simp [agree_cons, agree_nil, slook_cons, vInt]; grind)
    ·
      have hi : i = D.length := by simp at hc; omega
      subst hi
      clear hc
      refine awp_exit ?_   -- exit 0
      simp only [Nat.reduceEqDiff, ↓reduceIte]
      refine hK0 _ ?_; clear hK0 K0 hK1 K1
      have hok : pOK D = true := by
        unfold pOK
        rw [all_digits h2, Bool.and_true]
        have e1 : D.isEmpty = false := by simpa using hne
        rw [e1]
        by_cases h0 : D.getD 0 0 = 48
        · rw [h48 h0]; rfl
        · have e2 : (D.getD 0 0 == 48) = false := by simpa using h0
          rw [e2]; rfl
      refine awp_seq_k fun K0 hK0 => ?_
      refine awp_seq_k fun K1 hK1 => ?_
      refine awp_region (Θ := Θ) (Γ := Γ) [0, 39] ΘOK ΓOK rfl ?_
      repeat' (first
        | (with_reducible refine arun_nil ?_)
        | ((with_reducible apply arun_any); (focus exact rfl); (focus (simp (disch := first | assumption | (with_reducible exact okL_limbs _) | omega) only [go_sem, ↓reduceIte, Nat.reduceEqDiff, reduceCtorEq, Nat.reduceAdd]; with_reducible exact rfl)); with_reducible (first | refine okk_some ?_ | (refine okk_ite ?_ ?_; (focus omega)) | (refine okk_ifn ?_ ?_; (focus omega)))))
      all_goals (simp only [go_sem, ↓reduceIte, Nat.reduceEqDiff, reduceCtorEq, Nat.reduceAdd]; refine hK1 _ ?_; clear hK1 K1)
      apply awp_cond
      (focus (simp only [go_sem, ↓reduceIte, Nat.reduceEqDiff, reduceCtorEq, Nat.reduceAdd]; exact rfl))
      all_goals intro hc
      ·
        have hlong : ¬ D.length ≤ 10000 := by simp at hc; omega
        refine awp_seq_k fun K1 hK1 => ?_
        refine awp_region (Θ := Θ) (Γ := Γ) [2, 3] ΘOK ΓOK rfl ?_
        repeat' (first
          | (with_reducible refine arun_nil ?_)
          | ((with_reducible apply arun_any); (focus exact rfl); (focus (simp (disch := first | assumption | (with_reducible exact okL_limbs _) | omega) only [go_sem, ↓reduceIte, Nat.reduceEqDiff, reduceCtorEq, Nat.reduceAdd]; with_reducible exact rfl)); with_reducible (first | refine okk_some ?_ | (refine okk_ite ?_ ?_; (focus omega)) | (refine okk_ifn ?_ ?_; (focus omega)))))
        all_goals (simp only [go_sem, ↓reduceIte, Nat.reduceEqDiff, reduceCtorEq, Nat.reduceAdd]; refine hK1 _ ?_; clear hK1 K1)
        refine awp_ret ?_
        simp only [go_sem, ↓reduceIte, Nat.reduceEqDiff, reduceCtorEq, Nat.reduceAdd, Res, rParse, hok, hlong]
      ·
        have hlong : D.length ≤ 10000 := by simp at hc; omega
        refine awp_skip ?_
        refine hK0 _ ?_; clear hK0 K0
        refine awp_seq_k fun K0 hK0 => ?_
        refine awp_region (Θ := Θ) (Γ := Γ) [0, 5] ΘOK ΓOK rfl ?_
        repeat' (first
          | (with_reducible refine arun_nil ?_)
          | ((with_reducible apply arun_any); (focus exact rfl); (focus (simp (disch := first | assumption | (with_reducible exact okL_limbs _) | omega) only [go_sem, ↓reduceIte, Nat.reduceEqDiff, reduceCtorEq, Nat.reduceAdd]; with_reducible exact rfl)); with_reducible (first | refine okk_some ?_ | (refine okk_ite ?_ ?_; (focus omega)) | (refine okk_ifn ?_ ?_; (focus omega)))))
        all_goals (simp only [go_sem, ↓reduceIte, Nat.reduceEqDiff, reduceCtorEq, Nat.reduceAdd]; refine hK0 _ ?_; clear hK0 K0)
        refine awp_own 5 79 48 1 (by decide) rfl rfl ?_
        simp only [go_sem, ↓reduceIte, Nat.reduceEqDiff, reduceCtorEq, Nat.reduceAdd]
        refine awp_seq_k fun K0 hK0 => ?_
        refine awp_seq_k fun K1 hK1 => ?_
        refine awp_region (Θ := Θ) (Γ := Γ) [0, 5, 6] ΘOK ΓOK rfl ?_
        repeat' (first
          | (with_reducible refine arun_nil ?_)
          | ((with_reducible apply arun_any); (focus exact rfl); (focus (simp (disch := first | assumption | (with_reducible exact okL_limbs _) | omega) only [go_sem, ↓reduceIte, Nat.reduceEqDiff, reduceCtorEq, Nat.reduceAdd]; with_reducible exact rfl)); with_reducible (first | refine okk_some ?_ | (refine okk_ite ?_ ?_; (focus omega)) | (refine okk_ifn ?_ ?_; (focus omega)))))
        all_goals (simp only [go_sem, ↓reduceIte, Nat.reduceEqDiff, reduceCtorEq, Nat.reduceAdd]; refine hK1 _ ?_; clear hK1 K1)
        refine awp_block ?_   -- 2
        refine awp_loop_st (ι := Nat × List Int) (fun p => [(0, .val (.string s)), (5, .own 79), (6, vInt .i64 p.1)]) (fun p => [(79, ⟨48, 1, ints .u32 p.2, none⟩)]) (fun p => D.length - p.1)
          (fun p => p.1 ≤ D.length ∧ p.2 = limbs (pv (D.take p.1)) ∧ p.2.length ≤ p.1) (0, [])
          ⟨by omega, by simp [pv, limbs_zero], by simp⟩ (by simp [agree_cons, agree_nil, slook_cons, vInt]) (by simp [ints]) ?_
        rintro ⟨i, O⟩ ⟨h1, h3, h4⟩
        simp only at h1 h3 h4 ⊢
        refine awp_seq_k fun K1 hK1 => ?_
        refine awp_seq_k fun K2 hK2 => ?_
        refine awp_region (Θ := Θ) (Γ := Γ) [0, 5, 6, 43] ΘOK ΓOK rfl ?_
        repeat' (first
          | (with_reducible refine arun_nil ?_)
          | ((with_reducible apply arun_any); (focus exact rfl); (focus (simp (disch := first | assumption | (with_reducible exact okL_limbs _) | omega) only [go_sem, ↓reduceIte, Nat.reduceEqDiff, reduceCtorEq, Nat.reduceAdd]; with_reducible exact rfl)); with_reducible (first | refine okk_some ?_ | (refine okk_ite ?_ ?_; (focus omega)) | (refine okk_ifn ?_ ?_; (focus omega)))))
        all_goals (simp only [go_sem, ↓reduceIte, Nat.reduceEqDiff, reduceCtorEq, Nat.reduceAdd]; refine hK2 _ ?_; clear hK2 K2)
        apply awp_cond
        (focus (simp only [go_sem, ↓reduceIte, Nat.reduceEqDiff, reduceCtorEq, Nat.reduceAdd]; exact rfl))
        all_goals intro hc
        ·
          have hi : i < D.length := by simp at hc; omega
          clear hc
          refine awp_skip ?_
          refine hK1 _ ?_; clear hK1 K1
          refine awp_seq_k fun K1 hK1 => ?_
          have fin : ∀ (O2 : List Int) (σ : St), O2 = limbs (pv (D.take (i + 1))) → O2.length ≤ i + 1 → agree [(0, .val (.string s)), (5, .own 79), (6, vInt .i64 i)] σ.t → σ.h = hlook [(79, ⟨48, 1, ints .u32 O2, none⟩)] → K1 σ := by
            intro O2 σ ho1 ho2 hag hh
            refine hK1 σ ?_
            refine awp_forget _ hag ?_
            rw [hh]
            refine awp_region (Θ := Θ) (Γ := Γ) [0, 5, 6] ΘOK ΓOK rfl ?_
            repeat' (first
              | (with_reducible refine arun_nil ?_)
              | ((with_reducible apply arun_any); (focus exact rfl); (focus (simp (disch := first | assumption | (with_reducible exact okL_limbs _) | omega) only [go_sem, ↓reduceIte, Nat.reduceEqDiff, reduceCtorEq, Nat.reduceAdd]; with_reducible exact rfl)); with_reducible (first | refine okk_some ?_ | (refine okk_ite ?_ ?_; (focus omega)) | (refine okk_ifn ?_ ?_; (focus omega)))))
            all_goals (simp only [go_sem, ↓reduceIte, Nat.reduceEqDiff, reduceCtorEq, Nat.reduceAdd])
            refine ⟨(i + 1, O2), ⟨by simp only; omega, ho1, ho2⟩, ?_, rfl, by simp only; omega⟩
            ·
              first | (simp [agree_cons, agree_nil, slook_cons, vInt]; done) | (simp [agree_cons, agree_nil, slook_cons, vInt]; omega) | (simp [agree_cons, agree_nil, slook_cons, vInt]; grind)
          refine awp_block ?_   -- 3
          have hx := hDr i
          have hdg := h2 i hi
          have hpv := pv_take_succ D hi
          generalize hxe : D.getD i 0 = x at *
          obtain ⟨d, hd⟩ : ∃ d : Nat, (x - 48).toNat = d := ⟨_, rfl⟩
          have hd2 : (x - 48) % 256 = (d : Int) ∧ d ≤ 9 := by
            unfold digitB at hdg; simp at hdg; omega
          have hd3 := hd2.1
          rw [hd] at hpv
          refine awp_seq_k fun K2 hK2 => ?_
          refine awp_region (Θ := Θ) (Γ := Γ) [0, 5, 6, 7] ΘOK ΓOK rfl ?_
          repeat' (first
            | (with_reducible refine arun_nil ?_)
            | ((with_reducible apply arun_any); (focus exact rfl); (focus (simp (disch := first | assumption | (with_reducible exact okL_limbs _) | omega) only [go_sem, ↓reduceIte, Nat.reduceEqDiff, reduceCtorEq, Nat.reduceAdd, hD, hxe, hd3]; with_reducible exact rfl)); with_reducible (first | refine okk_some ?_ | (refine okk_ite ?_ ?_; (focus omega)) | (refine okk_ifn ?_ ?_; (focus omega)))))
          all_goals (simp only [go_sem, ↓reduceIte, Nat.reduceEqDiff, reduceCtorEq, Nat.reduceAdd]; refine hK2 _ ?_; clear hK2 K2)
          refine awp_seq_k fun K2 hK2 => ?_
          refine awp_seq_k fun K3 hK3 => ?_
          refine awp_region (Θ := Θ) (Γ := Γ) [0, 5, 6, 7, 8] ΘOK ΓOK rfl ?_
          repeat' (first
            | (with_reducible refine arun_nil ?_)
            | ((with_reducible apply arun_any); (focus exact rfl); (focus (simp (disch := first | assumption | (with_reducible exact okL_limbs _) | omega) only [go_sem, ↓reduceIte, Nat.reduceEqDiff, reduceCtorEq, Nat.reduceAdd]; with_reducible exact rfl)); with_reducible (first | refine okk_some ?_ | (refine okk_ite ?_ ?_; (focus omega)) | (refine okk_ifn ?_ ?_; (focus omega)))))
          all_goals (simp only [go_sem, ↓reduceIte, Nat.reduceEqDiff, reduceCtorEq, Nat.reduceAdd]; refine hK3 _ ?_; clear hK3 K3)
          have hO : okL O := by rw [h3]; exact okL_limbs _
          refine awp_block ?_   -- 4
          refine awp_loop_st (ι := Nat × List Int × Int) (fun p => [(0, .val (.string s)), (5, .own 79), (6, vInt .i64 i), (7, vInt .u64 p.2.2), (8, vInt .i64 p.1)]) (fun p => [(79, ⟨48, 1, ints .u32 p.2.1, none⟩)]) (fun p => O.length - p.1)
            (fun p => p.1 ≤ O.length ∧ okL p.2.1 ∧ p.2.1.length = O.length ∧ (0 ≤ p.2.2 ∧ p.2.2 ≤ 9) ∧ iv p.2.1 + W p.1 * p.2.2 = iv O + 9 * iv (O.take p.1) + d ∧ ∀ j, p.1 ≤ j → p.2.1.getD j 0 = O.getD j 0) (0, O, (d : Int))
            ⟨by omega, hO, rfl, by simp only; omega, by simp [W_zero, iv_nil], fun j _ => rfl⟩ (by simp [agree_cons, agree_nil, slook_cons, vInt]) rfl ?_
          rintro ⟨k, Q, c⟩ ⟨g1, g2, g3, g4, g5, g6⟩
          simp only at g1 g2 g3 g4 g5 g6 ⊢
          refine awp_seq_k fun K3 hK3 => ?_
          refine awp_seq_k fun K4 hK4 => ?_
          refine awp_region (Θ := Θ) (Γ := Γ) [0, 5, 6, 7, 8, 54] ΘOK ΓOK rfl ?_
          repeat' (first
            | (with_reducible refine arun_nil ?_)
            | ((with_reducible apply arun_any); (focus exact rfl); (focus (simp (disch := first | assumption | (with_reducible exact okL_limbs _) | omega) only [go_sem, ↓reduceIte, Nat.reduceEqDiff, reduceCtorEq, Nat.reduceAdd]; with_reducible exact rfl)); with_reducible (first | refine okk_some ?_ | (refine okk_ite ?_ ?_; (focus omega)) | (refine okk_ifn ?_ ?_; (focus omega)))))
          all_goals (simp only [go_sem, ↓reduceIte, Nat.reduceEqDiff, reduceCtorEq, Nat.reduceAdd]; refine hK4 _ ?_; clear hK4 K4)
          apply awp_cond
          (focus (simp only [go_sem, ↓reduceIte, Nat.reduceEqDiff, reduceCtorEq, Nat.reduceAdd]; exact rfl))
          all_goals intro hc
          ·
            have hk : k < O.length := by simp at hc; omega
            clear hc
            refine awp_skip ?_
            refine hK3 _ ?_; clear hK3 K3
            have hst := parse_step hO g2 (by omega) (g6 k (Nat.le_refl _)) g4.1 g5
            have hy := okL_get hO k
            have hqk := g6 k (Nat.le_refl _)
            generalize hye : O.getD k 0 = y at *
            refine awp_seq_k fun K3 hK3 => ?_
            refine awp_block ?_   -- 5
            refine awp_seq_k fun K4 hK4 => ?_
            refine awp_region (Θ := Θ) (Γ := Γ) [0, 5, 6, 7, 8] ΘOK ΓOK rfl ?_
            repeat' (first
              | (with_reducible refine arun_nil ?_)
              | ((with_reducible apply arun_any); (focus exact rfl); (focus (simp (disch := first | assumption | (with_reducible exact okL_limbs _) | omega) only [go_sem, ↓reduceIte, Nat.reduceEqDiff, reduceCtorEq, Nat.reduceAdd, hqk]; with_reducible exact rfl)); with_reducible (first | refine okk_some ?_ | (refine okk_ite ?_ ?_; (focus omega)) | (refine okk_ifn ?_ ?_; (focus omega)))))
            all_goals (simp only [go_sem, ↓reduceIte, Nat.reduceEqDiff, reduceCtorEq, Nat.reduceAdd]; refine hK4 _ ?_; clear hK4 K4)
            have e5 : (c + y * 10) % 4294967296 % 4294967296 = (c + y * 10) % 4294967296 := by omega
            refine awp_seq_k fun K4 hK4 => ?_
            refine awp_region (Θ := Θ) (Γ := Γ) [0, 5, 6, 7, 8] ΘOK ΓOK rfl ?_
            repeat' (first
              | (with_reducible refine arun_nil ?_)
              | ((with_reducible apply arun_any); (focus exact rfl); (focus (simp (disch := first | assumption | (with_reducible exact okL_limbs _) | omega) only [go_sem, ↓reduceIte, Nat.reduceEqDiff, reduceCtorEq, Nat.reduceAdd, e5]; with_reducible exact rfl)); with_reducible (first | refine okk_some ?_ | (refine okk_ite ?_ ?_; (focus omega)) | (refine okk_ifn ?_ ?_; (focus omega)))))
            all_goals (simp only [go_sem, ↓reduceIte, Nat.reduceEqDiff, reduceCtorEq, Nat.reduceAdd]; refine hK4 _ ?_; clear hK4 K4)
            refine awp_region (Θ := Θ) (Γ := Γ) [0, 5, 6, 7, 8] ΘOK ΓOK rfl ?_
            repeat' (first
              | (with_reducible refine arun_nil ?_)
              | ((with_reducible apply arun_any); (focus exact rfl); (focus (simp (disch := first | assumption | (with_reducible exact okL_limbs _) | omega) only [go_sem, ↓reduceIte, Nat.reduceEqDiff, reduceCtorEq, Nat.reduceAdd, e5]; with_reducible exact rfl)); with_reducible (first | refine okk_some ?_ | (refine okk_ite ?_ ?_; (focus omega)) | (refine okk_ifn ?_ ?_; (focus omega)))))
            all_goals (simp only [go_sem, ↓reduceIte, Nat.reduceEqDiff, reduceCtorEq, Nat.reduceAdd])
            refine hK3 _ ?_; clear hK3 K3
            refine awp_region (Θ := Θ) (Γ := Γ) [0, 5, 6, 7, 8] ΘOK ΓOK rfl ?_
            repeat' (first
              | (with_reducible refine arun_nil ?_)
              | ((with_reducible apply arun_any); (focus exact rfl); (focus (simp (disch := first | assumption | (with_reducible exact okL_limbs _) | omega) only [go_sem, ↓reduceIte, Nat.reduceEqDiff, reduceCtorEq, Nat.reduceAdd, e5]; with_reducible exact rfl)); with_reducible (first | refine okk_some ?_ | (refine okk_ite ?_ ?_; (focus omega)) | (refine okk_ifn ?_ ?_; (focus omega)))))
            all_goals (simp only [go_sem, ↓reduceIte, Nat.reduceEqDiff, reduceCtorEq, Nat.reduceAdd])
            refine ⟨(k + 1, Q.set k ((c + y * 10) % 4294967296), (c + y * 10) / 4294967296), ⟨by simp only; omega, okL_set g2 _ (by omega), by simpa using g3, by simp only; omega, hst, fun j hj => ?_⟩, ?_, rfl, by simp only; omega⟩
            ·
              simp only at hj ⊢
              rw [getD_set, if_neg (by omega)]
              exact g6 j (by omega)
            ·
              first | (simp [agree_cons, agree_nil, slook_cons, vInt]; done) | (simp [agree_cons, agree_nil, slook_cons, vInt]; omega) | (simp [agree_cons, agree_nil, slook_cons, vInt]; grind)
          ·
            have hk : k = O.length := by simp at hc; omega
            subst hk
            clear hc
            refine awp_exit ?_   -- exit 4
            simp only [Nat.reduceEqDiff, ↓reduceIte]
            refine hK2 _ ?_; clear hK2 K2 hK3 K3
            obtain ⟨e1, e2⟩ := parse_end h3 g2 g3 g4 g5
            rw [← hpv] at e1 e2
            refine awp_seq_k fun K2 hK2 => ?_
            refine awp_region (Θ := Θ) (Γ := Γ) [0, 5, 6, 7, 74] ΘOK ΓOK rfl ?_
            repeat' (first
              | (with_reducible refine arun_nil ?_)
              | ((with_reducible apply arun_any); (focus exact rfl); (focus (simp (disch := first | assumption | (with_reducible exact okL_limbs _) | omega) only [go_sem, ↓reduceIte, Nat.reduceEqDiff, reduceCtorEq, Nat.reduceAdd]; with_reducible exact rfl)); with_reducible (first | refine okk_some ?_ | (refine okk_ite ?_ ?_; (focus omega)) | (refine okk_ifn ?_ ?_; (focus omega)))))
            all_goals (simp only [go_sem, ↓reduceIte, Nat.reduceEqDiff, reduceCtorEq, Nat.reduceAdd]; refine hK2 _ ?_; clear hK2 K2)
            apply awp_cond
            (focus (simp only [go_sem, ↓reduceIte, Nat.reduceEqDiff, reduceCtorEq, Nat.reduceAdd]; exact rfl))
            all_goals intro hc
            ·
              have h0 : 0 < c := by simpa using hc
              have e3 : c % 4294967296 = c := by omega
              refine awp_region (Θ := Θ) (Γ := Γ) [0, 5, 6] ΘOK ΓOK rfl ?_
              repeat' (first
                | (with_reducible refine arun_nil ?_)
                | ((with_reducible apply arun_any); (focus exact rfl); (focus (simp (disch := first | assumption | (with_reducible exact okL_limbs _) | omega) only [go_sem, ↓reduceIte, Nat.reduceEqDiff, reduceCtorEq, Nat.reduceAdd, e3]; with_reducible exact rfl)); with_reducible (first | refine okk_some ?_ | (refine okk_ite ?_ ?_; (focus omega)) | (refine okk_ifn ?_ ?_; (focus omega)))))
              all_goals (simp only [go_sem, ↓reduceIte, Nat.reduceEqDiff, reduceCtorEq, Nat.reduceAdd])
              refine fin (Q ++ [c]) _ (e2 h0) (by simp; omega) ?_ rfl
              ·
                first | (simp [agree_cons, agree_nil, slook_cons, vInt]; done) | (simp [agree_cons, agree_nil, slook_cons, vInt]; omega) | (simp [agree_cons, agree_nil, slook_cons, vInt]; grind)
            ·
              have h0 : c ≤ 0 := by simpa using hc
              refine awp_skip ?_
              refine fin Q _ (e1 h0) (by omega) ?_ rfl
              ·
                first | (simp [agree_cons, agree_nil, slook_cons, vInt]; done) | (simp [agree_cons, agree_nil, slook_cons, vInt]; omega) | (simp [agree_cons, agree_nil, slook_cons, vInt]; grind)
        ·
          have hi : i = D.length := by simp at hc; omega
          subst hi
          rw [List.take_length] at h3
          subst h3
          refine awp_exit ?_   -- exit 2
          simp only [Nat.reduceEqDiff, ↓reduceIte]
          refine hK0 _ ?_; clear hK0 K0 hK1 K1
          refine awp_seq_k fun K0 hK0 => ?_
          refine awp_region (Θ := Θ) (Γ := Γ) [2, 3] ΘOK ΓOK rfl ?_
          repeat' (first
            | (with_reducible refine arun_nil ?_)
            | ((with_reducible apply arun_any); (focus exact rfl); (focus (simp (disch := first | assumption | (with_reducible exact okL_limbs _) | omega) only [go_sem, ↓reduceIte, Nat.reduceEqDiff, reduceCtorEq, Nat.reduceAdd]; with_reducible exact rfl)); with_reducible (first | refine okk_some ?_ | (refine okk_ite ?_ ?_; (focus omega)) | (refine okk_ifn ?_ ?_; (focus omega)))))
          all_goals (simp only [go_sem, ↓reduceIte, Nat.reduceEqDiff, reduceCtorEq, Nat.reduceAdd]; refine hK0 _ ?_; clear hK0 K0)
          refine awp_ret ?_
          simp only [go_sem, ↓reduceIte, Nat.reduceEqDiff, reduceCtorEq, Nat.reduceAdd, Res, rParse, hok, hlong]
  by_cases hne : D = []
  ·
    have hd : decide (D = []) = true := by simpa using hne
    refine awp_seq_k fun K1 hK1 => ?_
    refine awp_region (Θ := Θ) (Γ := Γ) [0, 20] ΘOK ΓOK rfl ?_
    repeat' (first
      | (with_reducible refine arun_nil ?_)
      | ((with_reducible apply arun_any); (focus exact rfl); (focus (simp (disch := first | assumption | (with_reducible exact okL_limbs _) | omega) only [go_sem, ↓reduceIte, Nat.reduceEqDiff, reduceCtorEq, Nat.reduceAdd, beq_str, hD, bytes_empty, hd]; with_reducible exact rfl)); with_reducible (first | refine okk_some ?_ | (refine okk_ite ?_ ?_; (focus omega)) | (refine okk_ifn ?_ ?_; (focus omega))))
      | ((with_reducible apply arun_gyes); (focus exact rfl); (focus (simp only [go_sem, ↓reduceIte, Nat.reduceEqDiff, reduceCtorEq, Nat.reduceAdd, beq_str, hD, bytes_empty, hd]; with_reducible exact rfl)); (focus first | assumption | exact rfl))
      | ((with_reducible apply arun_gundef); (focus exact rfl); (focus (simp only [go_sem, ↓reduceIte, Nat.reduceEqDiff, reduceCtorEq, Nat.reduceAdd, beq_str, hD, bytes_empty, hd]; done)))
      | ((with_reducible apply arun_gno); (focus exact rfl); (focus (simp only [go_sem, ↓reduceIte, Nat.reduceEqDiff, reduceCtorEq, Nat.reduceAdd, beq_str, hD, bytes_empty, hd]; with_reducible exact rfl)); (focus first | assumption | exact rfl))
      | ((with_reducible apply arun_guard); (focus exact rfl); (focus (simp only [go_sem, ↓reduceIte, Nat.reduceEqDiff, reduceCtorEq, Nat.reduceAdd, beq_str, hD, bytes_empty, hd]; with_reducible exact rfl)); (focus intro hb); rotate_left; (focus intro hb); rotate_right))
    all_goals (simp only [go_sem, ↓reduceIte, Nat.reduceEqDiff, reduceCtorEq, Nat.reduceAdd]; refine hK1 _ ?_; clear hK1 K1)
    apply awp_cond
    (focus (simp only [go_sem, ↓reduceIte, Nat.reduceEqDiff, reduceCtorEq, Nat.reduceAdd]; exact rfl))
    all_goals intro hc
    ·
      refine awp_seq_k fun K1 hK1 => ?_
      refine awp_region (Θ := Θ) (Γ := Γ) [2, 3] ΘOK ΓOK rfl ?_
      repeat' (first
        | (with_reducible refine arun_nil ?_)
        | ((with_reducible apply arun_any); (focus exact rfl); (focus (simp (disch := first | assumption | (with_reducible exact okL_limbs _) | omega) only [go_sem, ↓reduceIte, Nat.reduceEqDiff, reduceCtorEq, Nat.reduceAdd]; with_reducible exact rfl)); with_reducible (first | refine okk_some ?_ | (refine okk_ite ?_ ?_; (focus omega)) | (refine okk_ifn ?_ ?_; (focus omega)))))
      all_goals (simp only [go_sem, ↓reduceIte, Nat.reduceEqDiff, reduceCtorEq, Nat.reduceAdd]; refine hK1 _ ?_; clear hK1 K1)
      refine awp_ret ?_
      simp only [go_sem, ↓reduceIte, Nat.reduceEqDiff, reduceCtorEq, Nat.reduceAdd, Res, rParse, hne, pOK, List.isEmpty_nil]
      rfl
    · cases hc
  ·
    have hd : decide (D = []) = false := by simpa using hne
    have hlen : 0 < D.length := List.length_pos_iff.2 hne
    by_cases h48 : D.getD 0 0 = 48
    ·
      have hd2 : (D.getD 0 0 == 48) = true := by simpa using h48
      by_cases hone : D.length = 1
      ·
        have hd3 : decide ((s.size : Int) > 1) = false := by simp; omega
        refine awp_seq_k fun K1 hK1 => ?_
        refine awp_region (Θ := Θ) (Γ := Γ) [0, 20] ΘOK ΓOK rfl ?_
        repeat' (first
          | (with_reducible refine arun_nil ?_)
          | ((with_reducible apply arun_any); (focus exact rfl); (focus (simp (disch := first | assumption | (with_reducible exact okL_limbs _) | omega) only [go_sem, ↓reduceIte, Nat.reduceEqDiff, reduceCtorEq, Nat.reduceAdd, beq_str, hD, bytes_empty, hd, hd2, hd3]; with_reducible exact rfl)); with_reducible (first | refine okk_some ?_ | (refine okk_ite ?_ ?_; (focus omega)) | (refine okk_ifn ?_ ?_; (focus omega))))
          | ((with_reducible apply arun_gyes); (focus exact rfl); (focus (simp only [go_sem, ↓reduceIte, Nat.reduceEqDiff, reduceCtorEq, Nat.reduceAdd, beq_str, hD, bytes_empty, hd, hd2, hd3]; with_reducible exact rfl)); (focus first | assumption | exact rfl))
          | ((with_reducible apply arun_gundef); (focus exact rfl); (focus (simp only [go_sem, ↓reduceIte, Nat.reduceEqDiff, reduceCtorEq, Nat.reduceAdd, beq_str, hD, bytes_empty, hd, hd2, hd3]; done)))
          | ((with_reducible apply arun_gno); (focus exact rfl); (focus (simp only [go_sem, ↓reduceIte, Nat.reduceEqDiff, reduceCtorEq, Nat.reduceAdd, beq_str, hD, bytes_empty, hd, hd2, hd3]; with_reducible exact rfl)); (focus first | assumption | exact rfl))
          | ((with_reducible apply arun_guard); (focus exact rfl); (focus (simp only [go_sem, ↓reduceIte, Nat.reduceEqDiff, reduceCtorEq, Nat.reduceAdd, beq_str, hD, bytes_empty, hd, hd2, hd3]; with_reducible exact rfl)); (focus intro hb); rotate_left; (focus intro hb); rotate_right))
        all_goals (simp only [go_sem, ↓reduceIte, Nat.reduceEqDiff, reduceCtorEq, Nat.reduceAdd]; refine hK1 _ ?_; clear hK1 K1)
        apply awp_cond
        (focus (simp only [go_sem, ↓reduceIte, Nat.reduceEqDiff, reduceCtorEq, Nat.reduceAdd]; exact rfl))
        all_goals intro hc
        · cases hc
        ·
          refine awp_skip ?_
          refine rest hne (fun _ => one_of hone h48) _ ?_ rfl
          first | (simp [agree_cons, agree_nil, slook_cons, vInt]; done) | (simp [agree_cons, agree_nil, slook_cons, vInt]; omega) | (simp [agree_cons, agree_nil, slook_cons, vInt]; grind)
      ·
        have hd3 : decide ((s.size : Int) > 1) = true := by simp; omega
        refine awp_seq_k fun K1 hK1 => ?_
        refine awp_region (Θ := Θ) (Γ := Γ) [0, 20] ΘOK ΓOK rfl ?_
        repeat' (first
          | (with_reducible refine arun_nil ?_)
          | ((with_reducible apply arun_any); (focus exact rfl); (focus (simp (disch := first | assumption | (with_reducible exact okL_limbs _) | omega) only [go_sem, ↓reduceIte, Nat.reduceEqDiff, reduceCtorEq, Nat.reduceAdd, beq_str, hD, bytes_empty, hd, hd2, hd3]; with_reducible exact rfl)); with_reducible (first | refine okk_some ?_ | (refine okk_ite ?_ ?_; (focus omega)) | (refine okk_ifn ?_ ?_; (focus omega))))
          | ((with_reducible apply arun_gyes); (focus exact rfl); (focus (simp only [go_sem, ↓reduceIte, Nat.reduceEqDiff, reduceCtorEq, Nat.reduceAdd, beq_str, hD, bytes_empty, hd, hd2, hd3]; with_reducible exact rfl)); (focus first | assumption | exact rfl))
          | ((with_reducible apply arun_gundef); (focus exact rfl); (focus (simp only [go_sem, ↓reduceIte, Nat.reduceEqDiff, reduceCtorEq, Nat.reduceAdd, beq_str, hD, bytes_empty, hd, hd2, hd3]; done)))
          | ((with_reducible apply arun_gno); (focus exact rfl); (focus (simp only [go_sem, ↓reduceIte, Nat.reduceEqDiff, reduceCtorEq, Nat.reduceAdd, beq_str, hD, bytes_empty, hd, hd2, hd3]; with_reducible exact rfl)); (focus first | assumption | exact rfl))
          | ((with_reducible apply arun_guard); (focus exact rfl); (focus (simp only [go_sem, ↓reduceIte, Nat.reduceEqDiff, reduceCtorEq, Nat.reduceAdd, beq_str, hD, bytes_empty, hd, hd2, hd3]; with_reducible exact rfl)); (focus intro hb); rotate_left; (focus intro hb); rotate_right))
        all_goals (simp only [go_sem, ↓reduceIte, Nat.reduceEqDiff, reduceCtorEq, Nat.reduceAdd]; refine hK1 _ ?_; clear hK1 K1)
        apply awp_cond
        (focus (simp only [go_sem, ↓reduceIte, Nat.reduceEqDiff, reduceCtorEq, Nat.reduceAdd]; exact rfl))
        all_goals intro hc
        ·
          have hb : pOK D = false := by
            have e : (D == [48]) = false := by
              rw [beq_eq_false_iff_ne]
              intro e; subst e; simp at hone
            unfold pOK
            rw [hd2, e]; simp
          refine awp_seq_k fun K1 hK1 => ?_
          refine awp_region (Θ := Θ) (Γ := Γ) [2, 3] ΘOK ΓOK rfl ?_
          repeat' (first
            | (with_reducible refine arun_nil ?_)
            | ((with_reducible apply arun_any); (focus exact rfl); (focus (simp (disch := first | assumption | (with_reducible exact okL_limbs _) | omega) only [go_sem, ↓reduceIte, Nat.reduceEqDiff, reduceCtorEq, Nat.reduceAdd]; with_reducible exact rfl)); with_reducible (first | refine okk_some ?_ | (refine okk_ite ?_ ?_; (focus omega)) | (refine okk_ifn ?_ ?_; (focus omega)))))
          all_goals (simp only [go_sem, ↓reduceIte, Nat.reduceEqDiff, reduceCtorEq, Nat.reduceAdd]; refine hK1 _ ?_; clear hK1 K1)
          refine awp_ret ?_
          simp only [go_sem, ↓reduceIte, Nat.reduceEqDiff, reduceCtorEq, Nat.reduceAdd, Res, rParse, hb, Bool.false_eq_true]
        · cases hc
    ·
      have hd2 : (D.getD 0 0 == 48) = false := by simpa using h48
      refine awp_seq_k fun K1 hK1 => ?_
      refine awp_region (Θ := Θ) (Γ := Γ) [0, 20] ΘOK ΓOK rfl ?_
      repeat' (first
        | (with_reducible refine arun_nil ?_)
        | ((with_reducible apply arun_any); (focus exact rfl); (focus (simp (disch := first | assumption | (with_reducible exact okL_limbs _) | omega) only [go_sem, ↓reduceIte, Nat.reduceEqDiff, reduceCtorEq, Nat.reduceAdd, beq_str, hD, bytes_empty, hd, hd2]; with_reducible exact rfl)); with_reducible (first | refine okk_some ?_ | (refine okk_ite ?_ ?_; (focus omega)) | (refine okk_ifn ?_ ?_; (focus omega))))
        | ((with_reducible apply arun_gyes); (focus exact rfl); (focus (simp only [go_sem, ↓reduceIte, Nat.reduceEqDiff, reduceCtorEq, Nat.reduceAdd, beq_str, hD, bytes_empty, hd, hd2]; with_reducible exact rfl)); (focus first | assumption | exact rfl))
        | ((with_reducible apply arun_gundef); (focus exact rfl); (focus (simp only [go_sem, ↓reduceIte, Nat.reduceEqDiff, reduceCtorEq, Nat.reduceAdd, beq_str, hD, bytes_empty, hd, hd2]; done)))
        | ((with_reducible apply arun_gno); (focus exact rfl); (focus (simp only [go_sem, ↓reduceIte, Nat.reduceEqDiff, reduceCtorEq, Nat.reduceAdd, beq_str, hD, bytes_empty, hd, hd2]; with_reducible exact rfl)); (focus first | assumption | exact rfl))
        | ((with_reducible apply arun_guard); (focus exact rfl); (focus (simp only [go_sem, ↓reduceIte, Nat.reduceEqDiff, reduceCtorEq, Nat.reduceAdd, beq_str, hD, bytes_empty, hd, hd2]; with_reducible exact rfl)); (focus intro hb); rotate_left; (focus intro hb); rotate_right))
      all_goals (simp only [go_sem, ↓reduceIte, Nat.reduceEqDiff, reduceCtorEq, Nat.reduceAdd]; refine hK1 _ ?_; clear hK1 K1)
      apply awp_cond
      (focus (simp only [go_sem, ↓reduceIte, Nat.reduceEqDiff, reduceCtorEq, Nat.reduceAdd]; exact rfl))
      all_goals intro hc
      · cases hc
      ·
        refine awp_skip ?_
        refine rest hne (fun h => absurd h h48) _ ?_ rfl
        first | (simp [agree_cons, agree_nil, slook_cons, vInt]; done) | (simp [agree_cons, agree_nil, slook_cons, vInt]; omega) | (simp [agree_cons, agree_nil, slook_cons, vInt]; grind)
end RParse
end Go.Proofs

namespace Go.Proofs
open Go.Abs Go.NatMath
set_option linter.unusedVariables false
set_option linter.unusedSimpArgs false

theorem list_snoc_ind {α : Type} {p : List α → Prop} (h0 : p []) (h1 : ∀ l x, p l → p (l ++ [x])) (l : List α) : p l := by
  rw [← List.reverse_reverse l]
  generalize l.reverse = m
  induction m with
  | nil => exact h0
  | cons x m ih => rw [List.reverse_cons]; exact h1 _ _ ih
theorem pv_lt (D : List Int) : D.all digitB = true → pv D < 10 ^ D.length := by
  induction D using list_snoc_ind with
  | h0 => intro _; simp [pv]
  | h1 l x ih =>
    intro h
    rw [List.all_append, Bool.and_eq_true] at h
    have := ih h.1
    have hx := h.2
    simp [digitB] at hx
    rw [pv_snoc, List.length_append, List.length_singleton, Nat.pow_succ]
    omega
theorem pOK_all {D : List Int} (h : pOK D = true) : D.all digitB = true := by
  unfold pOK at h; simp only [Bool.and_eq_true] at h; exact h.2
theorem pv_limbs_length {D : List Int} (h : pOK D = true) : (limbs (pv D)).length ≤ D.length :=
  limbs_length_le (Nat.lt_of_lt_of_le (pv_lt D (pOK_all h)) (Nat.pow_le_pow_left (by decide) _))
theorem rParse_cases (D : List Int) : (pOK D = true ∧ D.length ≤ 10000 ∧ rParse D = .tup [U (pv D), .val (.int .i64 0)]) ∨ (pOK D = true ∧ 10000 < D.length ∧ rParse D = .tup [.lst [], .val (.int .i64 2)]) ∨ (pOK D = false ∧ rParse D = .tup [.lst [], .val (.int .i64 10)]) := by
  unfold rParse
  cases h : pOK D with
  | false => exact .inr (.inr ⟨rfl, rfl⟩)
  | true =>
    rw [if_pos rfl]
    by_cases hl : D.length ≤ 10000
    · exact .inl ⟨rfl, hl, by rw [if_pos hl]⟩
    · exact .inr (.inl ⟨rfl, by omega, by rw [if_neg hl]⟩)

/-! ### What is told is read again -/
theorem digits_pv (D : List Int) : D.all digitB = true → (D ≠ [] → D.getD 0 0 ≠ 48) → digits (pv D) = D.reverse ∧ (D ≠ [] → pv D ≠ 0) := by
  induction D using list_snoc_ind with
  | h0 => intro _ _; exact ⟨by simp [pv, digits_zero], fun h => absurd rfl h⟩
  | h1 l x ih =>
    intro h hf
    rw [List.all_append, Bool.and_eq_true] at h
    have hx := h.2
    simp [digitB] at hx
    have hf2 := hf (by simp)
    obtain ⟨g1, g2⟩ := ih h.1 (fun hl => by
      rwa [getD_append, if_pos (List.length_pos_iff.2 hl)] at hf2)
    have hne : pv (l ++ [x]) ≠ 0 := by
      rw [pv_snoc]
      by_cases hl : l = []
      · subst hl
        simp at hf2
        omega
      · have := g2 hl
        omega
    refine ⟨?_, fun _ => hne⟩
    rw [digits_pos hne, pv_snoc, List.reverse_append, List.reverse_singleton, List.singleton_append]
    congr 1
    · unfold dig; omega
    · rw [show (10 * pv l + (x - 48).toNat) / 10 = pv l by omega, g1]
theorem text_pv {D : List Int} (h : pOK D = true) : textOf (pv D) = D := by
  have hall := pOK_all h
  have h1 : D ≠ [] := by
    intro e; subst e; simp [pOK] at h
  by_cases h48 : D.getD 0 0 = 48
  · have : D = [48] := by
      unfold pOK at h
      simp only [Bool.and_eq_true, Bool.or_eq_true] at h
      rcases h.1.2 with h2 | h2
      · simp only [h48] at h2; cases h2
      · exact beq_iff_eq.1 h2
    subst this
    rfl
  · obtain ⟨g1, g2⟩ := digits_pv D hall (fun _ => h48)
    unfold textOf
    rw [if_neg (g2 h1), revText_digits, g1, List.reverse_reverse]
theorem dig_digit (d : Nat) (h : d < 10) : digitB (dig d) = true := by unfold digitB dig; rw [Bool.and_eq_true, decide_eq_true_eq, decide_eq_true_eq]; omega
theorem pv_digits (n : Nat) : pv (digits n).reverse = n ∧ (digits n).all digitB = true ∧ (n ≠ 0 → (digits n).reverse.getD 0 0 ≠ 48 ∧ digits n ≠ []) := by
  induction n using Nat.strongRecOn with
  | _ n ih =>
    by_cases h0 : n = 0
    · subst h0; rw [digits_zero]; exact ⟨rfl, rfl, fun h => absurd rfl h⟩
    · obtain ⟨g1, g2, g3⟩ := ih (n / 10) (Nat.div_lt_self (by omega) (by decide))
      rw [digits_pos h0, List.reverse_cons]
      refine ⟨by rw [pv_snoc, g1]; unfold dig; omega, by rw [List.all_cons, g2, dig_digit _ (by omega)]; rfl, fun _ => ⟨?_, by simp⟩⟩
      rw [getD_append]
      split
      · rename_i hl
        refine (g3 ?_).1
        intro e; rw [e, digits_zero] at hl; simp at hl
      · rename_i hl
        have : n / 10 = 0 := by
          by_cases e : n / 10 = 0
          · exact e
          · exact absurd (by simpa using List.length_pos_iff.2 (g3 e).2) hl
        simp [dig, this, digits_zero]
        omega
theorem text_back (n : Nat) : pOK (textOf n) = true ∧ pv (textOf n) = n ∧ (∀ x ∈ textOf n, 0 ≤ x ∧ x < 256) := by
  have rng : ∀ l : List Int, l.all digitB = true → ∀ x ∈ l, 0 ≤ x ∧ x < 256 := fun l hl x hx => by
    have := List.all_eq_true.1 hl x hx
    simp [digitB] at this
    omega
  unfold textOf
  by_cases h0 : n = 0
  · subst h0
    exact ⟨rfl, rfl, rng _ rfl⟩
  · rw [if_neg h0, revText_digits]
    obtain ⟨g1, g2, g3⟩ := pv_digits n
    obtain ⟨g4, g5⟩ := g3 h0
    have g6 : (digits n).reverse.all digitB = true := by rw [List.all_reverse]; exact g2
    refine ⟨?_, g1, rng _ g6⟩
    unfold pOK
    have e1 : (digits n).reverse.isEmpty = false := by simpa using g5
    have e2 : ((digits n).reverse.getD 0 0 == 48) = false := by simpa using g4
    rw [g6, e1, e2]
    rfl
theorem textOf_length {k n : Nat} (h : n < 1000000000 ^ k) (hk : 1 ≤ k) : (textOf n).length ≤ 9 * k := by
  unfold textOf
  split
  · simp; omega
  · rw [List.length_reverse]; exact revText_length h

/-! ### NatParses -/
def spTrueS : List AV → Option AV
  | [.val (.string s)] => if s.size ≤ 140737488351232 then some (.val (.bool true)) else none
  | _ => none
attribute [go_sem] spTrueS
theorem spTrueS_some {args : List AV} {r : AV} (h : spTrueS args = some r) : ∃ s, args = [.val (.string s)] ∧ s.size ≤ 140737488351232 ∧ r = .val (.bool true) := by
  unfold spTrueS at h
  split at h
  · split at h
    · rename_i hc; cases h; exact ⟨_, rfl, hc, rfl⟩
    · cases h
  · cases h
namespace NatParses
def Γ : FuncId → Abs.Spec
  | 21 => .pure spAwake
  | 22 => .pure spSame
  | 41 => .pure spParse
  | 42 => .pure spParse
  | _ => .none
theorem ΓOK : ∀ f, SpecOK Try.prog f (Γ f) := by
  intro f
  unfold Γ
  split
  · exact ⟨⟨_, Try.func21, by decide +kernel, rfl⟩, Awake.ok⟩
  · exact ⟨⟨_, Try.func22, by decide +kernel, rfl⟩, Same22.ok⟩
  · exact ⟨⟨_, Try.func41, by decide +kernel, rfl⟩, Parse.ok⟩
  · exact ⟨⟨_, Try.func42, by decide +kernel, rfl⟩, RParse.ok⟩
  · trivial
attribute [local go_sem] Γ
theorem ok : PureOK Try.prog 10 spTrueS := by
  refine pure_of_awp (n := 37) [2] Try.func10 rfl rfl rfl ?_
  intro M0 w0 args r h
  obtain ⟨s, rfl, hs, rfl⟩ := spTrueS_some h
  clear h
  refine ⟨by simp, ?_⟩
  have hDl := bytes_length s
  have hn : okL [] := okL_nil
  have h0 : ([] : List Int).length ≤ 35184372088831 := by decide
  refine awp_seq_k fun K0 hK0 => ?_
  refine awp_region (Θ := Θ) (Γ := Γ) [0] ΘOK ΓOK rfl ?_
  repeat' (first
    | (with_reducible refine arun_nil ?_)
    | ((with_reducible apply arun_any); (focus exact rfl); (focus (simp (disch := first | assumption | (with_reducible exact okL_limbs _) | omega) only [go_sem, ↓reduceIte, Nat.reduceEqDiff, reduceCtorEq, Nat.reduceAdd]; with_reducible exact rfl)); with_reducible (first | refine okk_some ?_ | (refine okk_ite ?_ ?_; (focus omega)) | (refine okk_ifn ?_ ?_; (focus omega)))))
  all_goals (simp only [go_sem, ↓reduceIte, Nat.reduceEqDiff, reduceCtorEq, Nat.reduceAdd]; refine hK0 _ ?_; clear hK0 K0)
  refine awp_seq_k fun K0 hK0 => ?_
  have rest : ∀ σ : St, agree [(0, .val (.string s))] σ.t → σ.h = hlook [] → K0 σ := by
    intro σ hag hh
    refine hK0 σ ?_
    refine awp_forget _ hag ?_
    rw [hh]
    clear hag hh hK0 K0
    rcases rParse_cases (bys s) with ⟨hp, hl, hr⟩ | ⟨hp, hl, hr⟩ | ⟨hp, hr⟩
    ·
      have hA := okL_limbs (pv (bys s))
      have hAl := pv_limbs_length hp
      have hAl2 : (limbs (pv (bys s))).length ≤ 35184372088831 := by omega
      refine awp_seq_k fun K0 hK0 => ?_
      refine awp_region (Θ := Θ) (Γ := Γ) [0, 3, 4] ΘOK ΓOK rfl ?_
      repeat' (first
        | (with_reducible refine arun_nil ?_)
        | ((with_reducible apply arun_any); (focus exact rfl); (focus (simp (disch := first | assumption | (with_reducible exact okL_limbs _) | omega) only [go_sem, ↓reduceIte, Nat.reduceEqDiff, reduceCtorEq, Nat.reduceAdd, hr]; with_reducible exact rfl)); with_reducible (first | refine okk_some ?_ | (refine okk_ite ?_ ?_; (focus omega)) | (refine okk_ifn ?_ ?_; (focus omega)))))
      all_goals (simp only [go_sem, ↓reduceIte, Nat.reduceEqDiff, reduceCtorEq, Nat.reduceAdd]; refine hK0 _ ?_; clear hK0 K0)
      refine awp_seq_k fun K0 hK0 => ?_
      refine awp_region (Θ := Θ) (Γ := Γ) [3, 4, 5, 6] ΘOK ΓOK rfl ?_
      repeat' (first
        | (with_reducible refine arun_nil ?_)
        | ((with_reducible apply arun_any); (focus exact rfl); (focus (simp (disch := first | assumption | (with_reducible exact okL_limbs _) | omega) only [go_sem, ↓reduceIte, Nat.reduceEqDiff, reduceCtorEq, Nat.reduceAdd, hr]; with_reducible exact rfl)); with_reducible (first | refine okk_some ?_ | (refine okk_ite ?_ ?_; (focus omega)) | (refine okk_ifn ?_ ?_; (focus omega)))))
      all_goals (simp only [go_sem, ↓reduceIte, Nat.reduceEqDiff, reduceCtorEq, Nat.reduceAdd]; refine hK0 _ ?_; clear hK0 K0)
      refine awp_seq_k fun K0 hK0 => ?_
      refine awp_region (Θ := Θ) (Γ := Γ) [2] ΘOK ΓOK rfl ?_
      repeat' (first
        | (with_reducible refine arun_nil ?_)
        | ((with_reducible apply arun_any); (focus exact rfl); (focus (simp (disch := first | assumption | (with_reducible exact okL_limbs _) | omega) only [go_sem, ↓reduceIte, Nat.reduceEqDiff, reduceCtorEq, Nat.reduceAdd]; with_reducible exact rfl)); with_reducible (first | refine okk_some ?_ | (refine okk_ite ?_ ?_; (focus omega)) | (refine okk_ifn ?_ ?_; (focus omega))))
        | ((with_reducible apply arun_gyes); (focus exact rfl); (focus (simp only [go_sem, ↓reduceIte, Nat.reduceEqDiff, reduceCtorEq, Nat.reduceAdd]; with_reducible exact rfl)); (focus first | assumption | exact rfl))
        | ((with_reducible apply arun_gundef); (focus exact rfl); (focus (simp only [go_sem, ↓reduceIte, Nat.reduceEqDiff, reduceCtorEq, Nat.reduceAdd]; done)))
        | ((with_reducible apply arun_gno); (focus exact rfl); (focus (simp only [go_sem, ↓reduceIte, Nat.reduceEqDiff, reduceCtorEq, Nat.reduceAdd]; with_reducible exact rfl)); (focus first | assumption | exact rfl))
        | ((with_reducible apply arun_guard); (focus exact rfl); (focus (simp only [go_sem, ↓reduceIte, Nat.reduceEqDiff, reduceCtorEq, Nat.reduceAdd]; with_reducible exact rfl)); (focus intro hb); rotate_left; (focus intro hb); rotate_right))
      all_goals (simp only [go_sem, ↓reduceIte, Nat.reduceEqDiff, reduceCtorEq, Nat.reduceAdd]; refine hK0 _ ?_; clear hK0 K0)
      refine awp_ret ?_
      simp only [go_sem, ↓reduceIte, Nat.reduceEqDiff, reduceCtorEq, Nat.reduceAdd, Res]
    ·
      refine awp_seq_k fun K0 hK0 => ?_
      refine awp_region (Θ := Θ) (Γ := Γ) [0, 3, 4] ΘOK ΓOK rfl ?_
      repeat' (first
        | (with_reducible refine arun_nil ?_)
        | ((with_reducible apply arun_any); (focus exact rfl); (focus (simp (disch := first | assumption | (with_reducible exact okL_limbs _) | omega) only [go_sem, ↓reduceIte, Nat.reduceEqDiff, reduceCtorEq, Nat.reduceAdd, hr]; with_reducible exact rfl)); with_reducible (first | refine okk_some ?_ | (refine okk_ite ?_ ?_; (focus omega)) | (refine okk_ifn ?_ ?_; (focus omega)))))
      all_goals (simp only [go_sem, ↓reduceIte, Nat.reduceEqDiff, reduceCtorEq, Nat.reduceAdd]; refine hK0 _ ?_; clear hK0 K0)
      refine awp_seq_k fun K0 hK0 => ?_
      refine awp_region (Θ := Θ) (Γ := Γ) [3, 4, 5, 6] ΘOK ΓOK rfl ?_
      repeat' (first
        | (with_reducible refine arun_nil ?_)
        | ((with_reducible apply arun_any); (focus exact rfl); (focus (simp (disch := first | assumption | (with_reducible exact okL_limbs _) | omega) only [go_sem, ↓reduceIte, Nat.reduceEqDiff, reduceCtorEq, Nat.reduceAdd, hr]; with_reducible exact rfl)); with_reducible (first | refine okk_some ?_ | (refine okk_ite ?_ ?_; (focus omega)) | (refine okk_ifn ?_ ?_; (focus omega)))))
      all_goals (simp only [go_sem, ↓reduceIte, Nat.reduceEqDiff, reduceCtorEq, Nat.reduceAdd]; refine hK0 _ ?_; clear hK0 K0)
      refine awp_seq_k fun K0 hK0 => ?_
      refine awp_region (Θ := Θ) (Γ := Γ) [2] ΘOK ΓOK rfl ?_
      repeat' (first
        | (with_reducible refine arun_nil ?_)
        | ((with_reducible apply arun_any); (focus exact rfl); (focus (simp (disch := first | assumption | (with_reducible exact okL_limbs _) | omega) only [go_sem, ↓reduceIte, Nat.reduceEqDiff, reduceCtorEq, Nat.reduceAdd, hr]; with_reducible exact rfl)); with_reducible (first | refine okk_some ?_ | (refine okk_ite ?_ ?_; (focus omega)) | (refine okk_ifn ?_ ?_; (focus omega))))
        | ((with_reducible apply arun_gyes); (focus exact rfl); (focus (simp only [go_sem, ↓reduceIte, Nat.reduceEqDiff, reduceCtorEq, Nat.reduceAdd, hr]; with_reducible exact rfl)); (focus first | assumption | exact rfl))
        | ((with_reducible apply arun_gundef); (focus exact rfl); (focus (simp only [go_sem, ↓reduceIte, Nat.reduceEqDiff, reduceCtorEq, Nat.reduceAdd, hr]; done)))
        | ((with_reducible apply arun_gno); (focus exact rfl); (focus (simp only [go_sem, ↓reduceIte, Nat.reduceEqDiff, reduceCtorEq, Nat.reduceAdd, hr]; with_reducible exact rfl)); (focus first | assumption | exact rfl))
        | ((with_reducible apply arun_guard); (focus exact rfl); (focus (simp only [go_sem, ↓reduceIte, Nat.reduceEqDiff, reduceCtorEq, Nat.reduceAdd, hr]; with_reducible exact rfl)); (focus intro hb); rotate_left; (focus intro hb); rotate_right))
      all_goals (simp only [go_sem, ↓reduceIte, Nat.reduceEqDiff, reduceCtorEq, Nat.reduceAdd]; refine hK0 _ ?_; clear hK0 K0)
      refine awp_ret ?_
      simp only [go_sem, ↓reduceIte, Nat.reduceEqDiff, reduceCtorEq, Nat.reduceAdd, Res]
    ·
      refine awp_seq_k fun K0 hK0 => ?_
      refine awp_region (Θ := Θ) (Γ := Γ) [0, 3, 4] ΘOK ΓOK rfl ?_
      repeat' (first
        | (with_reducible refine arun_nil ?_)
        | ((with_reducible apply arun_any); (focus exact rfl); (focus (simp (disch := first | assumption | (with_reducible exact okL_limbs _) | omega) only [go_sem, ↓reduceIte, Nat.reduceEqDiff, reduceCtorEq, Nat.reduceAdd, hr]; with_reducible exact rfl)); with_reducible (first | refine okk_some ?_ | (refine okk_ite ?_ ?_; (focus omega)) | (refine okk_ifn ?_ ?_; (focus omega)))))
      all_goals (simp only [go_sem, ↓reduceIte, Nat.reduceEqDiff, reduceCtorEq, Nat.reduceAdd]; refine hK0 _ ?_; clear hK0 K0)
      refine awp_seq_k fun K0 hK0 => ?_
      refine awp_region (Θ := Θ) (Γ := Γ) [3, 4, 5, 6] ΘOK ΓOK rfl ?_
      repeat' (first
        | (with_reducible refine arun_nil ?_)
        | ((with_reducible apply arun_any); (focus exact rfl); (focus (simp (disch := first | assumption | (with_reducible exact okL_limbs _) | omega) only [go_sem, ↓reduceIte, Nat.reduceEqDiff, reduceCtorEq, Nat.reduceAdd, hr]; with_reducible exact rfl)); with_reducible (first | refine okk_some ?_ | (refine okk_ite ?_ ?_; (focus omega)) | (refine okk_ifn ?_ ?_; (focus omega)))))
      all_goals (simp only [go_sem, ↓reduceIte, Nat.reduceEqDiff, reduceCtorEq, Nat.reduceAdd]; refine hK0 _ ?_; clear hK0 K0)
      refine awp_seq_k fun K0 hK0 => ?_
      refine awp_region (Θ := Θ) (Γ := Γ) [2] ΘOK ΓOK rfl ?_
      repeat' (first
        | (with_reducible refine arun_nil ?_)
        | ((with_reducible apply arun_any); (focus exact rfl); (focus (simp (disch := first | assumption | (with_reducible exact okL_limbs _) | omega) only [go_sem, ↓reduceIte, Nat.reduceEqDiff, reduceCtorEq, Nat.reduceAdd, hr]; with_reducible exact rfl)); with_reducible (first | refine okk_some ?_ | (refine okk_ite ?_ ?_; (focus omega)) | (refine okk_ifn ?_ ?_; (focus omega))))
        | ((with_reducible apply arun_gyes); (focus exact rfl); (focus (simp only [go_sem, ↓reduceIte, Nat.reduceEqDiff, reduceCtorEq, Nat.reduceAdd, hr]; with_reducible exact rfl)); (focus first | assumption | exact rfl))
        | ((with_reducible apply arun_gundef); (focus exact rfl); (focus (simp only [go_sem, ↓reduceIte, Nat.reduceEqDiff, reduceCtorEq, Nat.reduceAdd, hr]; done)))
        | ((with_reducible apply arun_gno); (focus exact rfl); (focus (simp only [go_sem, ↓reduceIte, Nat.reduceEqDiff, reduceCtorEq, Nat.reduceAdd, hr]; with_reducible exact rfl)); (focus first | assumption | exact rfl))
        | ((with_reducible apply arun_guard); (focus exact rfl); (focus (simp only [go_sem, ↓reduceIte, Nat.reduceEqDiff, reduceCtorEq, Nat.reduceAdd, hr]; with_reducible exact rfl)); (focus intro hb); rotate_left; (focus intro hb); rotate_right))
      all_goals (simp only [go_sem, ↓reduceIte, Nat.reduceEqDiff, reduceCtorEq, Nat.reduceAdd]; refine hK0 _ ?_; clear hK0 K0)
      refine awp_ret ?_
      simp only [go_sem, ↓reduceIte, Nat.reduceEqDiff, reduceCtorEq, Nat.reduceAdd, Res]
  by_cases h6 : s.size > 600
  ·
    have hd : decide ((s.size : Int) > 600) = true := by simp; omega
    refine awp_seq_k fun K1 hK1 => ?_
    refine awp_region (Θ := Θ) (Γ := Γ) [0, 14] ΘOK ΓOK rfl ?_
    repeat' (first
      | (with_reducible refine arun_nil ?_)
      | ((with_reducible apply arun_any); (focus exact rfl); (focus (simp (disch := first | assumption | (with_reducible exact okL_limbs _) | omega) only [go_sem, ↓reduceIte, Nat.reduceEqDiff, reduceCtorEq, Nat.reduceAdd, hd]; with_reducible exact rfl)); with_reducible (first | refine okk_some ?_ | (refine okk_ite ?_ ?_; (focus omega)) | (refine okk_ifn ?_ ?_; (focus omega))))
      | ((with_reducible apply arun_gyes); (focus exact rfl); (focus (simp only [go_sem, ↓reduceIte, Nat.reduceEqDiff, reduceCtorEq, Nat.reduceAdd, hd]; with_reducible exact rfl)); (focus first | assumption | exact rfl))
      | ((with_reducible apply arun_gundef); (focus exact rfl); (focus (simp only [go_sem, ↓reduceIte, Nat.reduceEqDiff, reduceCtorEq, Nat.reduceAdd, hd]; done)))
      | ((with_reducible apply arun_gno); (focus exact rfl); (focus (simp only [go_sem, ↓reduceIte, Nat.reduceEqDiff, reduceCtorEq, Nat.reduceAdd, hd]; with_reducible exact rfl)); (focus first | assumption | exact rfl))
      | ((with_reducible apply arun_guard); (focus exact rfl); (focus (simp only [go_sem, ↓reduceIte, Nat.reduceEqDiff, reduceCtorEq, Nat.reduceAdd, hd]; with_reducible exact rfl)); (focus intro hb); rotate_left; (focus intro hb); rotate_right))
    all_goals (simp only [go_sem, ↓reduceIte, Nat.reduceEqDiff, reduceCtorEq, Nat.reduceAdd]; refine hK1 _ ?_; clear hK1 K1)
    apply awp_cond
    (focus (simp only [go_sem, ↓reduceIte, Nat.reduceEqDiff, reduceCtorEq, Nat.reduceAdd]; exact rfl))
    all_goals intro hc
    ·
      refine awp_seq_k fun K1 hK1 => ?_
      refine awp_region (Θ := Θ) (Γ := Γ) [2] ΘOK ΓOK rfl ?_
      repeat' (first
        | (with_reducible refine arun_nil ?_)
        | ((with_reducible apply arun_any); (focus exact rfl); (focus (simp (disch := first | assumption | (with_reducible exact okL_limbs _) | omega) only [go_sem, ↓reduceIte, Nat.reduceEqDiff, reduceCtorEq, Nat.reduceAdd]; with_reducible exact rfl)); with_reducible (first | refine okk_some ?_ | (refine okk_ite ?_ ?_; (focus omega)) | (refine okk_ifn ?_ ?_; (focus omega)))))
      all_goals (simp only [go_sem, ↓reduceIte, Nat.reduceEqDiff, reduceCtorEq, Nat.reduceAdd]; refine hK1 _ ?_; clear hK1 K1)
      refine awp_ret ?_
      simp only [go_sem, ↓reduceIte, Nat.reduceEqDiff, reduceCtorEq, Nat.reduceAdd, Res]
    ·
      refine awp_skip ?_
      refine rest _ ?_ rfl
      first | (simp [agree_cons, agree_nil, slook_cons, vInt]; done) | (simp [agree_cons, agree_nil, slook_cons, vInt]; omega) | (simp [agree_cons, agree_nil, slook_cons, vInt]; grind)
  ·
    have hd : decide ((s.size : Int) > 600) = false := by simp; omega
    refine awp_seq_k fun K1 hK1 => ?_
    refine awp_region (Θ := Θ) (Γ := Γ) [0, 14] ΘOK ΓOK rfl ?_
    repeat' (first
      | (with_reducible refine arun_nil ?_)
      | ((with_reducible apply arun_any); (focus exact rfl); (focus (simp (disch := first | assumption | (with_reducible exact okL_limbs _) | omega) only [go_sem, ↓reduceIte, Nat.reduceEqDiff, reduceCtorEq, Nat.reduceAdd, hd]; with_reducible exact rfl)); with_reducible (first | refine okk_some ?_ | (refine okk_ite ?_ ?_; (focus omega)) | (refine okk_ifn ?_ ?_; (focus omega))))
      | ((with_reducible apply arun_gyes); (focus exact rfl); (focus (simp only [go_sem, ↓reduceIte, Nat.reduceEqDiff, reduceCtorEq, Nat.reduceAdd, hd]; with_reducible exact rfl)); (focus first | assumption | exact rfl))
      | ((with_reducible apply arun_gundef); (focus exact rfl); (focus (simp only [go_sem, ↓reduceIte, Nat.reduceEqDiff, reduceCtorEq, Nat.reduceAdd, hd]; done)))
      | ((with_reducible apply arun_gno); (focus exact rfl); (focus (simp only [go_sem, ↓reduceIte, Nat.reduceEqDiff, reduceCtorEq, Nat.reduceAdd, hd]; with_reducible exact rfl)); (focus first | assumption | exact rfl))
      | ((with_reducible apply arun_guard); (focus exact rfl); (focus (simp only [go_sem, ↓reduceIte, Nat.reduceEqDiff, reduceCtorEq, Nat.reduceAdd, hd]; with_reducible exact rfl)); (focus intro hb); rotate_left; (focus intro hb); rotate_right))
    all_goals (simp only [go_sem, ↓reduceIte, Nat.reduceEqDiff, reduceCtorEq, Nat.reduceAdd]; refine hK1 _ ?_; clear hK1 K1)
    apply awp_cond
    (focus (simp only [go_sem, ↓reduceIte, Nat.reduceEqDiff, reduceCtorEq, Nat.reduceAdd]; exact rfl))
    all_goals intro hc
    · cases hc
    ·
      refine awp_skip ?_
      refine rest _ ?_ rfl
      first | (simp [agree_cons, agree_nil, slook_cons, vInt]; done) | (simp [agree_cons, agree_nil, slook_cons, vInt]; omega) | (simp [agree_cons, agree_nil, slook_cons, vInt]; grind)
end NatParses
end Go.Proofs

namespace Go.Proofs
open Go.Abs Go.NatMath
set_option linter.unusedVariables false
set_option linter.unusedSimpArgs false

/-! ### NatBack -/
def spTrueLS : List AV → Option AV
  | [x, .val (.string s)] => if s.size ≤ 140737488351232 then (decK 0 x).bind fun _ => some (.val (.bool true)) else none
  | _ => none
attribute [go_sem] spTrueLS
theorem ne00 : ((0 : Int) != 0) = false := rfl
theorem eq00 : ((0 : Int) == 0) = true := rfl
theorem ne10 : ((10 : Int) != 0) = true := rfl
theorem eq10 : ((10 : Int) == 0) = false := rfl
theorem spTrueLS_some {args : List AV} {r : AV} (h : spTrueLS args = some r) : ∃ L s, args = [.lst (ints .u32 L), .val (.string s)] ∧ okL L ∧ L.length ≤ 35184372088831 ∧ s.size ≤ 140737488351232 ∧ r = .val (.bool true) := by
  unfold spTrueLS at h
  split at h
  · split at h
    · rename_i hc
      obtain ⟨L, h1, h2⟩ := Option.bind_eq_some_iff.1 h
      obtain ⟨rfl, g2, g3⟩ := decK_some h1
      cases h2
      exact ⟨L, _, rfl, g2, g3, hc, rfl⟩
    · cases h
  · cases h
namespace NatBack
def Γ : FuncId → Abs.Spec
  | 18 => .pure spCut
  | 21 => .pure spAwake
  | 22 => .pure spSame
  | 23 => .pure spText
  | 25 => .pure spPlain
  | 41 => .pure spParse
  | _ => .none
theorem ΓOK : ∀ f, SpecOK Try.prog f (Γ f) := by
  intro f
  unfold Γ
  split
  · exact ⟨⟨_, Try.func18, by decide +kernel, rfl⟩, Cut.ok⟩
  · exact ⟨⟨_, Try.func21, by decide +kernel, rfl⟩, Awake.ok⟩
  · exact ⟨⟨_, Try.func22, by decide +kernel, rfl⟩, Same22.ok⟩
  · exact ⟨⟨_, Try.func23, by decide +kernel, rfl⟩, Text.ok⟩
  · exact ⟨⟨_, Try.func25, by decide +kernel, rfl⟩, Plain.ok⟩
  · exact ⟨⟨_, Try.func41, by decide +kernel, rfl⟩, Parse.ok⟩
  · trivial
attribute [local go_sem] Γ
theorem ok : PureOK Try.prog 11 spTrueLS := by
  refine pure_of_awp (n := 59) [4] Try.func11 rfl rfl rfl ?_
  intro M0 w0 args r h
  obtain ⟨L, s, rfl, hL, hLl, hs, rfl⟩ := spTrueLS_some h
  clear h
  refine ⟨by simp, ?_⟩
  have hn : okL [] := okL_nil
  have h0 : ([] : List Int).length ≤ 35184372088831 := by decide
  refine awp_seq_k fun K0 hK0 => ?_
  refine awp_region (Θ := Θ) (Γ := Γ) [0, 1] ΘOK ΓOK rfl ?_
  repeat' (first
    | (with_reducible refine arun_nil ?_)
    | ((with_reducible apply arun_any); (focus exact rfl); (focus (simp (disch := first | assumption | (with_reducible exact okL_limbs _) | omega) only [go_sem, ↓reduceIte, Nat.reduceEqDiff, reduceCtorEq, Nat.reduceAdd]; with_reducible exact rfl)); with_reducible (first | refine okk_some ?_ | (refine okk_ite ?_ ?_; (focus omega)) | (refine okk_ifn ?_ ?_; (focus omega)))))
  all_goals (simp only [go_sem, ↓reduceIte, Nat.reduceEqDiff, reduceCtorEq, Nat.reduceAdd]; refine hK0 _ ?_; clear hK0 K0)
  refine awp_seq_k fun K0 hK0 => ?_
  refine awp_region (Θ := Θ) (Γ := Γ) [0, 1, 5] ΘOK ΓOK rfl ?_
  repeat' (first
    | (with_reducible refine arun_nil ?_)
    | ((with_reducible apply arun_any); (focus exact rfl); (focus (simp (disch := first | assumption | (with_reducible exact okL_limbs _) | omega) only [go_sem, ↓reduceIte, Nat.reduceEqDiff, reduceCtorEq, Nat.reduceAdd]; with_reducible exact rfl)); with_reducible (first | refine okk_some ?_ | (refine okk_ite ?_ ?_; (focus omega)) | (refine okk_ifn ?_ ?_; (focus omega)))))
  all_goals (simp only [go_sem, ↓reduceIte, Nat.reduceEqDiff, reduceCtorEq, Nat.reduceAdd]; refine hK0 _ ?_; clear hK0 K0)
  refine awp_seq_k fun K0 hK0 => ?_
  refine awp_seq_k fun K1 hK1 => ?_
  refine awp_region (Θ := Θ) (Γ := Γ) [0, 1, 5, 12] ΘOK ΓOK rfl ?_
  repeat' (first
    | (with_reducible refine arun_nil ?_)
    | ((with_reducible apply arun_any); (focus exact rfl); (focus (simp (disch := first | assumption | (with_reducible exact okL_limbs _) | omega) only [go_sem, ↓reduceIte, Nat.reduceEqDiff, reduceCtorEq, Nat.reduceAdd, Bool.not_true]; with_reducible exact rfl)); with_reducible (first | refine okk_some ?_ | (refine okk_ite ?_ ?_; (focus omega)) | (refine okk_ifn ?_ ?_; (focus omega)))))
  all_goals (simp only [go_sem, ↓reduceIte, Nat.reduceEqDiff, reduceCtorEq, Nat.reduceAdd]; refine hK1 _ ?_; clear hK1 K1)
  apply awp_cond
  (focus (simp only [go_sem, ↓reduceIte, Nat.reduceEqDiff, reduceCtorEq, Nat.reduceAdd]; exact rfl))
  all_goals intro hc
  · cases hc
  ·
    refine awp_skip ?_
    refine hK0 _ ?_; clear hK0 K0
    have e100 : (100 : Int).toNat = 100 := rfl
    have hA := okL_take 100 hL
    have hAl : (L.take 100).length ≤ 100 := by simp; omega
    refine awp_seq_k fun K0 hK0 => ?_
    refine awp_region (Θ := Θ) (Γ := Γ) [0, 1, 5] ΘOK ΓOK rfl ?_
    repeat' (first
      | (with_reducible refine arun_nil ?_)
      | ((with_reducible apply arun_any); (focus exact rfl); (focus (simp (disch := first | assumption | (with_reducible exact okL_limbs _) | omega) only [go_sem, ↓reduceIte, Nat.reduceEqDiff, reduceCtorEq, Nat.reduceAdd, e100]; with_reducible exact rfl)); with_reducible (first | refine okk_some ?_ | (refine okk_ite ?_ ?_; (focus omega)) | (refine okk_ifn ?_ ?_; (focus omega)))))
    all_goals (simp only [go_sem, ↓reduceIte, Nat.reduceEqDiff, reduceCtorEq, Nat.reduceAdd]; refine hK0 _ ?_; clear hK0 K0)
    generalize L.take 100 = A at *
    obtain ⟨t1, t2, t3⟩ := text_back (nv A)
    have hb : nv A < 1000000000 ^ (2 * 100) := by
      rw [Nat.pow_mul]
      exact Nat.lt_of_lt_of_le (nv_lt hA) (Nat.le_trans (Nat.pow_le_pow_right B_pos hAl) (Nat.pow_le_pow_left (by decide) _))
    have hl := textOf_length hb (by decide)
    have hbs := bytes_strOf t3
    have hsz : (strOfNums (textOf (nv A))).size ≤ 140737488351232 := by rw [strOfNums_size]; omega
    have hrp : rParse (textOf (nv A)) = .tup [U (nv A), .val (.int .i64 0)] := by
      rcases rParse_cases (textOf (nv A)) with ⟨_, _, hr⟩ | ⟨_, hl2, _⟩ | ⟨hp, _⟩
      · rw [hr, t2]
      · omega
      · rw [t1] at hp; cases hp
    have hP := okL_limbs (nv A)
    have hPl := limbs_length_nv hA
    refine awp_seq_k fun K0 hK0 => ?_
    refine awp_region (Θ := Θ) (Γ := Γ) [0, 1, 5, 6, 7] ΘOK ΓOK rfl ?_
    repeat' (first
      | (with_reducible refine arun_nil ?_)
      | ((with_reducible apply arun_any); (focus exact rfl); (focus (simp (disch := first | assumption | (with_reducible exact okL_limbs _) | omega) only [go_sem, ↓reduceIte, Nat.reduceEqDiff, reduceCtorEq, Nat.reduceAdd, hbs, hrp]; with_reducible exact rfl)); with_reducible (first | refine okk_some ?_ | (refine okk_ite ?_ ?_; (focus omega)) | (refine okk_ifn ?_ ?_; (focus omega)))))
    all_goals (simp only [go_sem, ↓reduceIte, Nat.reduceEqDiff, reduceCtorEq, Nat.reduceAdd]; refine hK0 _ ?_; clear hK0 K0)
    refine awp_seq_k fun K0 hK0 => ?_
    refine awp_seq_k fun K1 hK1 => ?_
    refine awp_region (Θ := Θ) (Γ := Γ) [1, 5, 29] ΘOK ΓOK rfl ?_
    repeat' (first
      | (with_reducible refine arun_nil ?_)
      | ((with_reducible apply arun_any); (focus exact rfl); (focus (simp (disch := first | assumption | (with_reducible exact okL_limbs _) | omega) only [go_sem, ↓reduceIte, Nat.reduceEqDiff, reduceCtorEq, Nat.reduceAdd, Bool.not_true]; with_reducible exact rfl)); with_reducible (first | refine okk_some ?_ | (refine okk_ite ?_ ?_; (focus omega)) | (refine okk_ifn ?_ ?_; (focus omega))))
      | ((with_reducible apply arun_gyes); (focus exact rfl); (focus (simp only [go_sem, ↓reduceIte, Nat.reduceEqDiff, reduceCtorEq, Nat.reduceAdd, Bool.not_true]; with_reducible exact rfl)); (focus first | assumption | exact rfl))
      | ((with_reducible apply arun_gundef); (focus exact rfl); (focus (simp only [go_sem, ↓reduceIte, Nat.reduceEqDiff, reduceCtorEq, Nat.reduceAdd, Bool.not_true]; done)))
      | ((with_reducible apply arun_gno); (focus exact rfl); (focus (simp only [go_sem, ↓reduceIte, Nat.reduceEqDiff, reduceCtorEq, Nat.reduceAdd, Bool.not_true]; with_reducible exact rfl)); (focus first | assumption | exact rfl))
      | ((with_reducible apply arun_guard); (focus exact rfl); (focus (simp only [go_sem, ↓reduceIte, Nat.reduceEqDiff, reduceCtorEq, Nat.reduceAdd, Bool.not_true]; with_reducible exact rfl)); (focus intro hb); rotate_left; (focus intro hb); rotate_right))
    all_goals (simp only [go_sem, ↓reduceIte, Nat.reduceEqDiff, reduceCtorEq, Nat.reduceAdd]; refine hK1 _ ?_; clear hK1 K1)
    apply awp_cond
    (focus (simp only [go_sem, ↓reduceIte, Nat.reduceEqDiff, reduceCtorEq, Nat.reduceAdd]; exact rfl))
    all_goals intro hc
    · simp at hc
    ·
      clear hc
      refine awp_skip ?_
      refine hK0 _ ?_; clear hK0 K0
      refine awp_seq_k fun K0 hK0 => ?_
      refine awp_seq_k fun K1 hK1 => ?_
      refine awp_region (Θ := Θ) (Γ := Γ) [1, 5, 32] ΘOK ΓOK rfl ?_
      repeat' (first
        | (with_reducible refine arun_nil ?_)
        | ((with_reducible apply arun_any); (focus exact rfl); (focus (simp (disch := first | assumption | (with_reducible exact okL_limbs _) | omega) only [go_sem, ↓reduceIte, Nat.reduceEqDiff, reduceCtorEq, Nat.reduceAdd]; with_reducible exact rfl)); with_reducible (first | refine okk_some ?_ | (refine okk_ite ?_ ?_; (focus omega)) | (refine okk_ifn ?_ ?_; (focus omega)))))
      all_goals (simp only [go_sem, ↓reduceIte, Nat.reduceEqDiff, reduceCtorEq, Nat.reduceAdd]; refine hK1 _ ?_; clear hK1 K1)
      apply awp_cond
      (focus (simp only [go_sem, ↓reduceIte, Nat.reduceEqDiff, reduceCtorEq, Nat.reduceAdd]; exact rfl))
      all_goals intro hc
      ·
        refine awp_seq_k fun K1 hK1 => ?_
        refine awp_region (Θ := Θ) (Γ := Γ) [4] ΘOK ΓOK rfl ?_
        repeat' (first
          | (with_reducible refine arun_nil ?_)
          | ((with_reducible apply arun_any); (focus exact rfl); (focus (simp (disch := first | assumption | (with_reducible exact okL_limbs _) | omega) only [go_sem, ↓reduceIte, Nat.reduceEqDiff, reduceCtorEq, Nat.reduceAdd]; with_reducible exact rfl)); with_reducible (first | refine okk_some ?_ | (refine okk_ite ?_ ?_; (focus omega)) | (refine okk_ifn ?_ ?_; (focus omega)))))
        all_goals (simp only [go_sem, ↓reduceIte, Nat.reduceEqDiff, reduceCtorEq, Nat.reduceAdd]; refine hK1 _ ?_; clear hK1 K1)
        refine awp_ret ?_
        simp only [go_sem, ↓reduceIte, Nat.reduceEqDiff, reduceCtorEq, Nat.reduceAdd, Res]
      ·
        have hs9 : s.size ≤ 900 := by simp at hc; omega
        refine awp_skip ?_
        refine hK0 _ ?_; clear hK0 K0
        have hDl := bytes_length s
        rcases rParse_cases (bys s) with ⟨hp, hl, hr⟩ | ⟨hp, hl, hr⟩ | ⟨hp, hr⟩
        ·
          have hQ := okL_limbs (pv (bys s))
          have hQl := pv_limbs_length hp
          have ht := text_pv hp
          have hvv := nv_limbs (pv (bys s))
          have hsb := strOf_bytes s
          refine awp_seq_k fun K0 hK0 => ?_
          refine awp_region (Θ := Θ) (Γ := Γ) [1, 5, 8, 9] ΘOK ΓOK rfl ?_
          repeat' (first
            | (with_reducible refine arun_nil ?_)
            | ((with_reducible apply arun_any); (focus exact rfl); (focus (simp (disch := first | assumption | (with_reducible exact okL_limbs _) | omega) only [go_sem, ↓reduceIte, Nat.reduceEqDiff, reduceCtorEq, Nat.reduceAdd, hr]; with_reducible exact rfl)); with_reducible (first | refine okk_some ?_ | (refine okk_ite ?_ ?_; (focus omega)) | (refine okk_ifn ?_ ?_; (focus omega)))))
          all_goals (simp only [go_sem, ↓reduceIte, Nat.reduceEqDiff, reduceCtorEq, Nat.reduceAdd]; refine hK0 _ ?_; clear hK0 K0)
          refine awp_seq_k fun K0 hK0 => ?_
          refine awp_region (Θ := Θ) (Γ := Γ) [4] ΘOK ΓOK rfl ?_
          repeat' (first
            | (with_reducible refine arun_nil ?_)
            | ((with_reducible apply arun_any); (focus exact rfl); (focus (simp (disch := first | assumption | (with_reducible exact okL_limbs _) | omega) only [go_sem, ↓reduceIte, Nat.reduceEqDiff, reduceCtorEq, Nat.reduceAdd, ne00, eq00, Bool.false_eq_true, hvv, ht, hsb, beq_str, decide_true]; with_reducible exact rfl)); with_reducible (first | refine okk_some ?_ | (refine okk_ite ?_ ?_; (focus omega)) | (refine okk_ifn ?_ ?_; (focus omega))))
            | ((with_reducible apply arun_gyes); (focus exact rfl); (focus (simp only [go_sem, ↓reduceIte, Nat.reduceEqDiff, reduceCtorEq, Nat.reduceAdd, ne00, eq00, Bool.false_eq_true, hvv, ht, hsb, beq_str, decide_true]; with_reducible exact rfl)); (focus first | assumption | exact rfl))
            | ((with_reducible apply arun_gundef); (focus exact rfl); (focus (simp only [go_sem, ↓reduceIte, Nat.reduceEqDiff, reduceCtorEq, Nat.reduceAdd, ne00, eq00, Bool.false_eq_true, hvv, ht, hsb, beq_str, decide_true]; done)))
            | ((with_reducible apply arun_gno); (focus exact rfl); (focus (simp only [go_sem, ↓reduceIte, Nat.reduceEqDiff, reduceCtorEq, Nat.reduceAdd, ne00, eq00, Bool.false_eq_true, hvv, ht, hsb, beq_str, decide_true]; with_reducible exact rfl)); (focus first | assumption | exact rfl))
            | ((with_reducible apply arun_guard); (focus exact rfl); (focus (simp only [go_sem, ↓reduceIte, Nat.reduceEqDiff, reduceCtorEq, Nat.reduceAdd, ne00, eq00, Bool.false_eq_true, hvv, ht, hsb, beq_str, decide_true]; with_reducible exact rfl)); (focus intro hb); rotate_left; (focus intro hb); rotate_right))
          all_goals (simp only [go_sem, ↓reduceIte, Nat.reduceEqDiff, reduceCtorEq, Nat.reduceAdd]; refine hK0 _ ?_; clear hK0 K0)
          refine awp_ret ?_
          simp only [go_sem, ↓reduceIte, Nat.reduceEqDiff, reduceCtorEq, Nat.reduceAdd, Res]
        · omega
        ·
          refine awp_seq_k fun K0 hK0 => ?_
          refine awp_region (Θ := Θ) (Γ := Γ) [1, 5, 8, 9] ΘOK ΓOK rfl ?_
          repeat' (first
            | (with_reducible refine arun_nil ?_)
            | ((with_reducible apply arun_any); (focus exact rfl); (focus (simp (disch := first | assumption | (with_reducible exact okL_limbs _) | omega) only [go_sem, ↓reduceIte, Nat.reduceEqDiff, reduceCtorEq, Nat.reduceAdd, hr]; with_reducible exact rfl)); with_reducible (first | refine okk_some ?_ | (refine okk_ite ?_ ?_; (focus omega)) | (refine okk_ifn ?_ ?_; (focus omega)))))
          all_goals (simp only [go_sem, ↓reduceIte, Nat.reduceEqDiff, reduceCtorEq, Nat.reduceAdd]; refine hK0 _ ?_; clear hK0 K0)
          refine awp_seq_k fun K0 hK0 => ?_
          refine awp_region (Θ := Θ) (Γ := Γ) [4] ΘOK ΓOK rfl ?_
          repeat' (first
            | (with_reducible refine arun_nil ?_)
            | ((with_reducible apply arun_any); (focus exact rfl); (focus (simp (disch := first | assumption | (with_reducible exact okL_limbs _) | omega) only [go_sem, ↓reduceIte, Nat.reduceEqDiff, reduceCtorEq, Nat.reduceAdd, ne10, eq10, Bool.false_eq_true]; with_reducible exact rfl)); with_reducible (first | refine okk_some ?_ | (refine okk_ite ?_ ?_; (focus omega)) | (refine okk_ifn ?_ ?_; (focus omega))))
            | ((with_reducible apply arun_gyes); (focus exact rfl); (focus (simp only [go_sem, ↓reduceIte, Nat.reduceEqDiff, reduceCtorEq, Nat.reduceAdd, ne10, eq10, Bool.false_eq_true]; with_reducible exact rfl)); (focus first | assumption | exact rfl))
            | ((with_reducible apply arun_gundef); (focus exact rfl); (focus (simp only [go_sem, ↓reduceIte, Nat.reduceEqDiff, reduceCtorEq, Nat.reduceAdd, ne10, eq10, Bool.false_eq_true]; done)))
            | ((with_reducible apply arun_gno); (focus exact rfl); (focus (simp only [go_sem, ↓reduceIte, Nat.reduceEqDiff, reduceCtorEq, Nat.reduceAdd, ne10, eq10, Bool.false_eq_true]; with_reducible exact rfl)); (focus first | assumption | exact rfl))
            | ((with_reducible apply arun_guard); (focus exact rfl); (focus (simp only [go_sem, ↓reduceIte, Nat.reduceEqDiff, reduceCtorEq, Nat.reduceAdd, ne10, eq10, Bool.false_eq_true]; with_reducible exact rfl)); (focus intro hb); rotate_left; (focus intro hb); rotate_right))
          all_goals (simp only [go_sem, ↓reduceIte, Nat.reduceEqDiff, reduceCtorEq, Nat.reduceAdd]; refine hK0 _ ?_; clear hK0 K0)
          refine awp_ret ?_
          simp only [go_sem, ↓reduceIte, Nat.reduceEqDiff, reduceCtorEq, Nat.reduceAdd, Res]
          rfl
end NatBack
end Go.Proofs
