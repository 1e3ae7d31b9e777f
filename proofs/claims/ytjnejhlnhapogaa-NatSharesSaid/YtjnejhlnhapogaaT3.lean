/- Contracts of functions that the law reaches: what they compute. No condition. -/
import Derived.Test.YtjnejhlnhapogaaProg
import Derived.Test.YtjnejhlnhapogaaT2
set_option linter.unusedVariables false
set_option linter.unusedSimpArgs false
namespace Go.Proofs
open Go.Abs Go.NatMath
set_option linter.unusedVariables false
set_option linter.unusedSimpArgs false

def Θ : TypeId → Sh
  | 2 => .int .i64
  | 3 => .int .i64
  | 4 => .bool
  | 5 => .int .u8
  | 9 => .str
  | 22 => .slice 48 1 4 (vInt .u32 0) (some .u32)
  | 48 => .int .u32
  | 56 => .slice 5 1 1 (vInt .u8 0) (some .u8)
  | 61 => .int .u64
  | _ => .other

attribute [go_sem] Θ
theorem info48 : (Try.prog.info? 48).map (fun i => (i.zero, i.size, i.bytes)) = some (some (.int .u32 0), 1, 4) := by kernel_rfl
theorem info5 : (Try.prog.info? 5).map (fun i => (i.zero, i.size, i.bytes)) = some (some (.int .u8 0), 1, 1) := by kernel_rfl

theorem slice_ok {P : Program} {t e : TypeId} {sz by_ : Nat} {zv : Value} {z : AV} {ek : Option IntKind} (hu : P.underlying t = some (.slice e)) (hs : (P.info? t).map (·.size) = some 1)
    (hi : (P.info? e).map (fun i => (i.zero, i.size, i.bytes)) = some (some zv, sz, by_)) (h0 : 0 < sz) (hk : ∀ k, ek = some k → P.underlying e = some (.int k)) (hz : zv.cells.size = sz) (hzl : (cellsOf z).length = sz)
    (hR : ∀ w M, RepL w M (cellsOf z) zv.cells.toList) : ShOK P t (.slice e sz by_ z ek) := by
  obtain ⟨i, h1, h2⟩ := Option.map_eq_some_iff.1 hi
  simp only [Prod.mk.injEq] at h2
  exact ⟨hu, hs, h0, hk, i, zv, h1, h2.2.1, h2.2.2, h2.1, hz, hzl, hR⟩

theorem ΘOK : ∀ t, ShOK Try.prog t (Θ t) := by
  intro t
  unfold Θ
  split
  · exact ⟨by kernel_rfl, by kernel_rfl⟩
  · exact ⟨by kernel_rfl, by kernel_rfl⟩
  · exact ⟨by kernel_rfl, by kernel_rfl⟩
  · exact ⟨by kernel_rfl, by kernel_rfl⟩
  · exact ⟨by kernel_rfl, by kernel_rfl⟩
  · exact slice_ok (zv := .int .u32 0) (by kernel_rfl) (by kernel_rfl) info48 (by decide) (fun k hk => by cases hk; kernel_rfl) rfl rfl (fun w M => .cons (.val _) .nil)
  · exact ⟨by kernel_rfl, by kernel_rfl⟩
  · exact slice_ok (zv := .int .u8 0) (by kernel_rfl) (by kernel_rfl) info5 (by decide) (fun k hk => by cases hk; kernel_rfl) rfl rfl (fun w M => .cons (.val _) .nil)
  · exact ⟨by kernel_rfl, by kernel_rfl⟩
  · trivial

theorem mixed : Try.prog.follows .mixedOrders = true := by kernel_rfl
attribute [go_sem] U

/-! ### nat.trim -/
def spTrim : List AV → Option AV
  | [x] => (dec x).map fun L => U (nv L)
  | _ => none

attribute [go_sem] spTrim
theorem spTrim_some {args : List AV} {r : AV} (h : spTrim args = some r) : ∃ L, args = [.lst (ints .u32 L)] ∧ okL L ∧ L.length ≤ MAXL ∧ r = U (nv L) := by
  unfold spTrim at h
  split at h
  · obtain ⟨L, h1, h2⟩ := Option.map_eq_some_iff.1 h
    obtain ⟨rfl, h3, h4⟩ := dec_some h1
    exact ⟨L, rfl, h3, h4, h2.symm⟩
  · cases h

namespace Trim
def Γ : FuncId → Abs.Spec := fun _ => .none
theorem ΓOK : ∀ f, SpecOK Try.prog f (Γ f) := fun _ => trivial
theorem ok : PureOK Try.prog 47 spTrim := by
  refine pure_of_awp (n := 22) [2] Try.func47 rfl rfl rfl ?_
  intro M0 w0 args r h
  obtain ⟨L, rfl, hok, hlen, rfl⟩ := spTrim_some h
  clear h
  rw [MAXL_val] at hlen
  refine ⟨by simp, ?_⟩
  refine awp_seq_k fun K hK => ?_
  refine awp_region (Θ := Θ) (Γ := Γ) [0] ΘOK ΓOK rfl ?_
  repeat' (first
    | (with_reducible refine arun_nil ?_)
    | ((with_reducible apply arun_any); (focus exact rfl); (focus (simp (disch := first | assumption | (with_reducible exact okL_limbs _) | omega) only [go_sem, ↓reduceIte, Nat.reduceEqDiff, reduceCtorEq, Nat.reduceAdd]; with_reducible exact rfl)); with_reducible (first | refine okk_some ?_ | (refine okk_ite ?_ ?_; (focus omega)) | (refine okk_ifn ?_ ?_; (focus omega)))))
  all_goals (simp only [go_sem, ↓reduceIte, Nat.reduceEqDiff, reduceCtorEq, Nat.reduceAdd]; refine hK _ ?_; clear hK K)
  refine awp_seq_k fun K hK => ?_
  refine awp_region (Θ := Θ) (Γ := Γ) [0, 3] ΘOK ΓOK rfl ?_
  repeat' (first
    | (with_reducible refine arun_nil ?_)
    | ((with_reducible apply arun_any); (focus exact rfl); (focus (simp (disch := first | assumption | (with_reducible exact okL_limbs _) | omega) only [go_sem, ↓reduceIte, Nat.reduceEqDiff, reduceCtorEq, Nat.reduceAdd]; with_reducible exact rfl)); with_reducible (first | refine okk_some ?_ | (refine okk_ite ?_ ?_; (focus omega)) | (refine okk_ifn ?_ ?_; (focus omega)))))
  all_goals (simp only [go_sem, ↓reduceIte, Nat.reduceEqDiff, reduceCtorEq, Nat.reduceAdd]; refine hK _ ?_; clear hK K)
  refine awp_seq_k fun K hK => ?_
  refine awp_block ?_
  refine awp_loop_st (ι := Nat) (fun n => [(0, .lst (ints .u32 L)), (3, vInt .i64 n)]) (fun _ => []) (fun n => n) (fun n => n ≤ L.length ∧ ∀ i, n ≤ i → L.getD i 0 = 0) L.length ⟨Nat.le_refl _, fun i hi => by simp [List.getD_eq_getElem?_getD, List.getElem?_eq_none hi]⟩ (by simp [agree_cons, agree_nil, slook_cons, vInt]) rfl ?_
  rintro n ⟨h1, h2⟩
  refine awp_seq_k fun K2 hK2 => ?_
  by_cases hn : n = 0
  · subst hn
    have hd : decide (((0 : Nat) : Int) > 0) = false := by simp
    refine awp_seq_k fun K1 hK1 => ?_
    refine awp_region (Θ := Θ) (Γ := Γ) [0, 3, 15] ΘOK ΓOK rfl ?_
    repeat' (first
      | (with_reducible refine arun_nil ?_)
      | ((with_reducible apply arun_any); (focus exact rfl); (focus (simp (disch := first | assumption | (with_reducible exact okL_limbs _) | omega) only [go_sem, ↓reduceIte, Nat.reduceEqDiff, reduceCtorEq, Nat.reduceAdd, hd]; with_reducible exact rfl)); with_reducible (first | refine okk_some ?_ | (refine okk_ite ?_ ?_; (focus omega)) | (refine okk_ifn ?_ ?_; (focus omega))))
      | ((with_reducible apply arun_gyes); (focus exact rfl); (focus (simp only [go_sem, ↓reduceIte, Nat.reduceEqDiff, reduceCtorEq, Nat.reduceAdd, hd]; with_reducible exact rfl)); (focus first | assumption | exact rfl))
      | ((with_reducible apply arun_gundef); (focus exact rfl); (focus (simp only [go_sem, ↓reduceIte, Nat.reduceEqDiff, reduceCtorEq, Nat.reduceAdd, hd]; done)))
      | ((with_reducible apply arun_gno); (focus exact rfl); (focus (simp only [go_sem, ↓reduceIte, Nat.reduceEqDiff, reduceCtorEq, Nat.reduceAdd, hd]; with_reducible exact rfl)); (focus first | assumption | exact rfl))
      | ((with_reducible apply arun_guard); (focus exact rfl); (focus (simp only [go_sem, ↓reduceIte, Nat.reduceEqDiff, reduceCtorEq, Nat.reduceAdd, hd]; with_reducible exact rfl)); (focus intro hb); rotate_left; (focus intro hb); rotate_right))
    all_goals (simp only [go_sem, ↓reduceIte, Nat.reduceEqDiff, reduceCtorEq, Nat.reduceAdd])
    refine hK1 _ ?_; clear hK1 K1
    apply awp_cond
    (focus (simp only [go_sem, ↓reduceIte, Nat.reduceEqDiff, reduceCtorEq, Nat.reduceAdd]; exact rfl))
    all_goals intro hc
    · cases hc
    · refine awp_exit ?_
      rw [if_pos rfl]
      refine hK _ ?_; clear hK K hK2 K2
      have hT : U (nv L) = .lst (ints .u32 (L.take 0)) := by rw [U, NatMath.trimmed hok h1 h2 (.inl rfl)]
      rw [hT]
      refine awp_seq_k fun K hK => ?_
      refine awp_region (Θ := Θ) (Γ := Γ) [2] ΘOK ΓOK rfl ?_
      repeat' (first
        | (with_reducible refine arun_nil ?_)
        | ((with_reducible apply arun_any); (focus exact rfl); (focus (simp (disch := first | assumption | (with_reducible exact okL_limbs _) | omega) only [go_sem, ↓reduceIte, Nat.reduceEqDiff, reduceCtorEq, Nat.reduceAdd]; with_reducible exact rfl)); with_reducible (first | refine okk_some ?_ | (refine okk_ite ?_ ?_; (focus omega)) | (refine okk_ifn ?_ ?_; (focus omega)))))
      all_goals (simp only [go_sem, ↓reduceIte, Nat.reduceEqDiff, reduceCtorEq, Nat.reduceAdd]; refine hK _ ?_; clear hK K)
      all_goals refine awp_ret ?_
      all_goals simp only [go_sem, ↓reduceIte, Nat.reduceEqDiff, reduceCtorEq, Nat.reduceAdd, Res]
  · have hd : decide ((n : Int) > 0) = true := by simp; omega
    refine awp_seq_k fun K1 hK1 => ?_
    refine awp_region (Θ := Θ) (Γ := Γ) [0, 3, 15] ΘOK ΓOK rfl ?_
    repeat' (first
      | (with_reducible refine arun_nil ?_)
      | ((with_reducible apply arun_any); (focus exact rfl); (focus (simp (disch := first | assumption | (with_reducible exact okL_limbs _) | omega) only [go_sem, ↓reduceIte, Nat.reduceEqDiff, reduceCtorEq, Nat.reduceAdd, hd]; with_reducible exact rfl)); with_reducible (first | refine okk_some ?_ | (refine okk_ite ?_ ?_; (focus omega)) | (refine okk_ifn ?_ ?_; (focus omega))))
      | ((with_reducible apply arun_gyes); (focus exact rfl); (focus (simp only [go_sem, ↓reduceIte, Nat.reduceEqDiff, reduceCtorEq, Nat.reduceAdd, hd]; with_reducible exact rfl)); (focus first | assumption | exact rfl))
      | ((with_reducible apply arun_gundef); (focus exact rfl); (focus (simp only [go_sem, ↓reduceIte, Nat.reduceEqDiff, reduceCtorEq, Nat.reduceAdd, hd]; done)))
      | ((with_reducible apply arun_gno); (focus exact rfl); (focus (simp only [go_sem, ↓reduceIte, Nat.reduceEqDiff, reduceCtorEq, Nat.reduceAdd, hd]; with_reducible exact rfl)); (focus first | assumption | exact rfl))
      | ((with_reducible apply arun_guard); (focus exact rfl); (focus (simp only [go_sem, ↓reduceIte, Nat.reduceEqDiff, reduceCtorEq, Nat.reduceAdd, hd]; with_reducible exact rfl)); (focus intro hb); rotate_left; (focus intro hb); rotate_right))
    all_goals (simp only [go_sem, ↓reduceIte, Nat.reduceEqDiff, reduceCtorEq, Nat.reduceAdd])
    refine hK1 _ ?_; clear hK1 K1
    have hi : ((n : Int) - 1).toNat = n - 1 := by omega
    rw [hi]
    apply awp_cond
    (focus (simp only [go_sem, ↓reduceIte, Nat.reduceEqDiff, reduceCtorEq, Nat.reduceAdd]; exact rfl))
    all_goals intro hc
    · refine awp_skip ?_
      refine hK2 _ ?_; clear hK2 K2
      refine awp_block ?_
      refine awp_region (Θ := Θ) (Γ := Γ) [0, 3] ΘOK ΓOK rfl ?_
      repeat' (first
        | (with_reducible refine arun_nil ?_)
        | ((with_reducible apply arun_any); (focus exact rfl); (focus (simp (disch := first | assumption | (with_reducible exact okL_limbs _) | omega) only [go_sem, ↓reduceIte, Nat.reduceEqDiff, reduceCtorEq, Nat.reduceAdd]; with_reducible exact rfl)); with_reducible (first | refine okk_some ?_ | (refine okk_ite ?_ ?_; (focus omega)) | (refine okk_ifn ?_ ?_; (focus omega)))))
      all_goals (simp only [go_sem, ↓reduceIte, Nat.reduceEqDiff, reduceCtorEq, Nat.reduceAdd])
      refine ⟨n - 1, ⟨by omega, fun i h => ?_⟩, ?_, by omega⟩
      · by_cases hi : n ≤ i
        · exact h2 i hi
        · have : i = n - 1 := by omega
          subst this
          exact beq_iff_eq.1 hc
      · simp [agree_cons, agree_nil, slook_cons, vInt]; omega
    · refine awp_exit ?_
      rw [if_pos rfl]
      refine hK _ ?_; clear hK K hK2 K2
      have hT : U (nv L) = .lst (ints .u32 (L.take n)) := by rw [U, NatMath.trimmed hok h1 h2 (.inr (by simpa using hc))]
      rw [hT]
      refine awp_seq_k fun K hK => ?_
      refine awp_region (Θ := Θ) (Γ := Γ) [2] ΘOK ΓOK rfl ?_
      repeat' (first
        | (with_reducible refine arun_nil ?_)
        | ((with_reducible apply arun_any); (focus exact rfl); (focus (simp (disch := first | assumption | (with_reducible exact okL_limbs _) | omega) only [go_sem, ↓reduceIte, Nat.reduceEqDiff, reduceCtorEq, Nat.reduceAdd]; with_reducible exact rfl)); with_reducible (first | refine okk_some ?_ | (refine okk_ite ?_ ?_; (focus omega)) | (refine okk_ifn ?_ ?_; (focus omega)))))
      all_goals (simp only [go_sem, ↓reduceIte, Nat.reduceEqDiff, reduceCtorEq, Nat.reduceAdd]; refine hK _ ?_; clear hK K)
      all_goals refine awp_ret ?_
      all_goals simp only [go_sem, ↓reduceIte, Nat.reduceEqDiff, reduceCtorEq, Nat.reduceAdd, Res]
end Trim

/-! ### slices.Clone -/
def spClone : List AV → Option AV
  | [x] => (dec x).map fun L => .lst (ints .u32 L)
  | _ => none
attribute [go_sem] spClone
theorem spClone_some {args : List AV} {r : AV} (h : spClone args = some r) : ∃ L, args = [.lst (ints .u32 L)] ∧ okL L ∧ L.length ≤ MAXL ∧ r = .lst (ints .u32 L) := by
  unfold spClone at h
  split at h
  · obtain ⟨L, h1, h2⟩ := Option.map_eq_some_iff.1 h
    obtain ⟨rfl, h3, h4⟩ := dec_some h1
    exact ⟨L, rfl, h3, h4, h2.symm⟩
  · cases h

namespace Clone
def Γ : FuncId → Abs.Spec := fun _ => .none
theorem ΓOK : ∀ f, SpecOK Try.prog f (Γ f) := fun _ => trivial
theorem ok : PureOK Try.prog 48 spClone := by
  refine pure_of_awp (n := 8) [2] Try.func48 rfl rfl rfl ?_
  intro M0 w0 args r h
  obtain ⟨L, rfl, hok, hlen, rfl⟩ := spClone_some h
  clear h
  rw [MAXL_val] at hlen
  refine ⟨by simp, ?_⟩
  cases L with
  | nil =>
    refine awp_seq_k fun K hK => ?_
    refine awp_region (Θ := Θ) (Γ := Γ) [0] ΘOK ΓOK rfl ?_
    repeat' (first
      | (with_reducible refine arun_nil ?_)
      | ((with_reducible apply arun_any); (focus exact rfl); (focus (simp (disch := first | assumption | (with_reducible exact okL_limbs _) | omega) only [go_sem, ↓reduceIte, Nat.reduceEqDiff, reduceCtorEq, Nat.reduceAdd]; with_reducible exact rfl)); with_reducible (first | refine okk_some ?_ | (refine okk_ite ?_ ?_; (focus omega)) | (refine okk_ifn ?_ ?_; (focus omega)))))
    all_goals (simp only [go_sem, ↓reduceIte, Nat.reduceEqDiff, reduceCtorEq, Nat.reduceAdd]; refine hK _ ?_; clear hK K)
    refine awp_seq_k fun K hK => ?_
    refine awp_seq_k fun K1 hK1 => ?_
    refine awp_region (Θ := Θ) (Γ := Γ) [0, 4] ΘOK ΓOK rfl ?_
    repeat' (first
      | (with_reducible refine arun_nil ?_)
      | ((with_reducible apply arun_any); (focus exact rfl); (focus (simp (disch := first | assumption | (with_reducible exact okL_limbs _) | omega) only [go_sem, ↓reduceIte, Nat.reduceEqDiff, reduceCtorEq, Nat.reduceAdd]; with_reducible exact rfl)); with_reducible (first | refine okk_some ?_ | (refine okk_ite ?_ ?_; (focus omega)) | (refine okk_ifn ?_ ?_; (focus omega)))))
    all_goals (simp only [go_sem, ↓reduceIte, Nat.reduceEqDiff, reduceCtorEq, Nat.reduceAdd]; refine hK1 _ ?_; clear hK1 K1)
    refine awp_cond_any (by simp only [go_sem, ↓reduceIte, Nat.reduceEqDiff, reduceCtorEq, Nat.reduceAdd]) ?_ ?_
    ·
      refine awp_seq_k fun K1 hK1 => ?_
      refine awp_region (Θ := Θ) (Γ := Γ) [2] ΘOK ΓOK rfl ?_
      repeat' (first
        | (with_reducible refine arun_nil ?_)
        | ((with_reducible apply arun_any); (focus exact rfl); (focus (simp (disch := first | assumption | (with_reducible exact okL_limbs _) | omega) only [go_sem, ↓reduceIte, Nat.reduceEqDiff, reduceCtorEq, Nat.reduceAdd]; with_reducible exact rfl)); with_reducible (first | refine okk_some ?_ | (refine okk_ite ?_ ?_; (focus omega)) | (refine okk_ifn ?_ ?_; (focus omega)))))
      all_goals (simp only [go_sem, ↓reduceIte, Nat.reduceEqDiff, reduceCtorEq, Nat.reduceAdd]; refine hK1 _ ?_; clear hK1 K1)
      refine awp_ret ?_
      simp only [go_sem, ↓reduceIte, Nat.reduceEqDiff, reduceCtorEq, Nat.reduceAdd, Res, ints_nil .u32]
    · refine awp_skip ?_
      refine hK _ ?_; clear hK K
      refine awp_seq_k fun K hK => ?_
      refine awp_region (Θ := Θ) (Γ := Γ) [2] ΘOK ΓOK rfl ?_
      repeat' (first
        | (with_reducible refine arun_nil ?_)
        | ((with_reducible apply arun_any); (focus exact rfl); (focus (simp (disch := first | assumption | (with_reducible exact okL_limbs _) | omega) only [go_sem, ↓reduceIte, Nat.reduceEqDiff, reduceCtorEq, Nat.reduceAdd]; with_reducible exact rfl)); with_reducible (first | refine okk_some ?_ | (refine okk_ite ?_ ?_; (focus omega)) | (refine okk_ifn ?_ ?_; (focus omega)))))
      all_goals (simp only [go_sem, ↓reduceIte, Nat.reduceEqDiff, reduceCtorEq, Nat.reduceAdd]; refine hK _ ?_; clear hK K)
      refine awp_ret ?_
      simp only [go_sem, ↓reduceIte, Nat.reduceEqDiff, reduceCtorEq, Nat.reduceAdd, Res]
  | cons x L =>
    refine awp_seq_k fun K hK => ?_
    refine awp_region (Θ := Θ) (Γ := Γ) [0] ΘOK ΓOK rfl ?_
    repeat' (first
      | (with_reducible refine arun_nil ?_)
      | ((with_reducible apply arun_any); (focus exact rfl); (focus (simp (disch := first | assumption | (with_reducible exact okL_limbs _) | omega) only [go_sem, ↓reduceIte, Nat.reduceEqDiff, reduceCtorEq, Nat.reduceAdd]; with_reducible exact rfl)); with_reducible (first | refine okk_some ?_ | (refine okk_ite ?_ ?_; (focus omega)) | (refine okk_ifn ?_ ?_; (focus omega)))))
    all_goals (simp only [go_sem, ↓reduceIte, Nat.reduceEqDiff, reduceCtorEq, Nat.reduceAdd]; refine hK _ ?_; clear hK K)
    refine awp_seq_k fun K hK => ?_
    refine awp_seq_k fun K1 hK1 => ?_
    refine awp_region (Θ := Θ) (Γ := Γ) [0, 4] ΘOK ΓOK rfl ?_
    repeat' (first
      | (with_reducible refine arun_nil ?_)
      | ((with_reducible apply arun_any); (focus exact rfl); (focus (simp (disch := first | assumption | (with_reducible exact okL_limbs _) | omega) only [go_sem, ↓reduceIte, Nat.reduceEqDiff, reduceCtorEq, Nat.reduceAdd]; with_reducible exact rfl)); with_reducible (first | refine okk_some ?_ | (refine okk_ite ?_ ?_; (focus omega)) | (refine okk_ifn ?_ ?_; (focus omega)))))
    all_goals (simp only [go_sem, ↓reduceIte, Nat.reduceEqDiff, reduceCtorEq, Nat.reduceAdd]; refine hK1 _ ?_; clear hK1 K1)
    apply awp_cond
    (focus (simp only [go_sem, ↓reduceIte, Nat.reduceEqDiff, reduceCtorEq, Nat.reduceAdd]; exact rfl))
    all_goals intro hc
    · cases hc
    · refine awp_skip ?_
      refine hK _ ?_; clear hK K
      simp only [List.length_cons] at hlen
      refine awp_seq_k fun K hK => ?_
      refine awp_region (Θ := Θ) (Γ := Γ) [2] ΘOK ΓOK rfl ?_
      repeat' (first
        | (with_reducible refine arun_nil ?_)
        | ((with_reducible apply arun_any); (focus exact rfl); (focus (simp (disch := first | assumption | (with_reducible exact okL_limbs _) | omega) only [go_sem, ↓reduceIte, Nat.reduceEqDiff, reduceCtorEq, Nat.reduceAdd]; with_reducible exact rfl)); with_reducible (first | refine okk_some ?_ | (refine okk_ite ?_ ?_; (focus omega)) | (refine okk_ifn ?_ ?_; (focus omega)))))
      all_goals (simp only [go_sem, ↓reduceIte, Nat.reduceEqDiff, reduceCtorEq, Nat.reduceAdd]; refine hK _ ?_; clear hK K)
      refine awp_ret ?_
      simp only [go_sem, ↓reduceIte, Nat.reduceEqDiff, reduceCtorEq, Nat.reduceAdd, Res]
end Clone
end Go.Proofs

namespace Go.Proofs
open Go.Abs Go.NatMath
set_option linter.unusedVariables false
set_option linter.unusedSimpArgs false

/-! ### math/bits.Sub32 -/
def spSub32 : List AV → Option AV
  | [.val (.int .u32 x), .val (.int .u32 y), .val (.int .u32 b)] => if 0 ≤ x ∧ x < 4294967296 ∧ 0 ≤ y ∧ y < 4294967296 ∧ 0 ≤ b ∧ b ≤ 1 then some (.tup [.val (.int .u32 ((x - y - b) % 4294967296)), .val (.int .u32 (if x < y + b then 1 else 0))]) else none
  | _ => none
attribute [go_sem] spSub32
theorem spSub32_some {args : List AV} {r : AV} (h : spSub32 args = some r) : ∃ x y b, args = [.val (.int .u32 x), .val (.int .u32 y), .val (.int .u32 b)] ∧ (0 ≤ x ∧ x < 4294967296) ∧ (0 ≤ y ∧ y < 4294967296) ∧ (0 ≤ b ∧ b ≤ 1) ∧ r = .tup [.val (.int .u32 ((x - y - b) % 4294967296)), .val (.int .u32 (if x < y + b then 1 else 0))] := by
  unfold spSub32 at h
  split at h
  · split at h
    · rename_i hc
      cases h
      exact ⟨_, _, _, rfl, ⟨hc.1, hc.2.1⟩, ⟨hc.2.2.1, hc.2.2.2.1⟩, hc.2.2.2.2, rfl⟩
    · cases h
  · cases h

namespace Sub32
def Γ : FuncId → Abs.Spec := fun _ => .none
theorem ΓOK : ∀ f, SpecOK Try.prog f (Γ f) := fun _ => trivial
theorem ok : PureOK Try.prog 60 spSub32 := by
  refine pure_of_awp (n := 25) [6, 7] Try.func60 rfl rfl rfl ?_
  intro M0 w0 args r h
  obtain ⟨x, y, b, rfl, hx, hy, hb, rfl⟩ := spSub32_some h
  refine ⟨by simp, ?_⟩
  refine awp_seq_k fun K hK => ?_
  refine awp_region (Θ := Θ) (Γ := Γ) [0, 1, 2] ΘOK ΓOK rfl ?_
  repeat' (first
    | (with_reducible refine arun_nil ?_)
    | ((with_reducible apply arun_any); (focus exact rfl); (focus (simp (disch := first | assumption | (with_reducible exact okL_limbs _) | omega) only [go_sem, ↓reduceIte, Nat.reduceEqDiff, reduceCtorEq, Nat.reduceAdd]; with_reducible exact rfl)); with_reducible (first | refine okk_some ?_ | (refine okk_ite ?_ ?_; (focus omega)) | (refine okk_ifn ?_ ?_; (focus omega)))))
  all_goals (simp only [go_sem, ↓reduceIte, Nat.reduceEqDiff, reduceCtorEq, Nat.reduceAdd]; refine hK _ ?_; clear hK K)
  refine awp_seq_k fun K hK => ?_
  refine awp_region (Θ := Θ) (Γ := Γ) [0, 1, 2, 6] ΘOK ΓOK rfl ?_
  repeat' (first
    | (with_reducible refine arun_nil ?_)
    | ((with_reducible apply arun_any); (focus exact rfl); (focus (simp (disch := first | assumption | (with_reducible exact okL_limbs _) | omega) only [go_sem, ↓reduceIte, Nat.reduceEqDiff, reduceCtorEq, Nat.reduceAdd]; with_reducible exact rfl)); with_reducible (first | refine okk_some ?_ | (refine okk_ite ?_ ?_; (focus omega)) | (refine okk_ifn ?_ ?_; (focus omega)))))
  all_goals (simp only [go_sem, ↓reduceIte, Nat.reduceEqDiff, reduceCtorEq, Nat.reduceAdd]; refine hK _ ?_; clear hK K)
  refine awp_seq_k fun K hK => ?_
  refine awp_region (Θ := Θ) (Γ := Γ) [6, 7] ΘOK ΓOK rfl ?_
  repeat' (first
    | (with_reducible refine arun_nil ?_)
    | ((with_reducible apply arun_any); (focus exact rfl); (focus (simp (disch := first | assumption | (with_reducible exact okL_limbs _) | omega) only [go_sem, ↓reduceIte, Nat.reduceEqDiff, reduceCtorEq, Nat.reduceAdd]; with_reducible exact rfl)); with_reducible (first | refine okk_some ?_ | (refine okk_ite ?_ ?_; (focus omega)) | (refine okk_ifn ?_ ?_; (focus omega)))))
  all_goals (simp only [go_sem, ↓reduceIte, Nat.reduceEqDiff, reduceCtorEq, Nat.reduceAdd]; refine hK _ ?_; clear hK K)
  refine awp_ret ?_
  have e : ((x - y) % 4294967296 - b) % 4294967296 = (x - y - b) % 4294967296 := by omega
  have hsg : IntKind.u32.signed = false := rfl
  simp only [go_sem, ↓reduceIte, Nat.reduceEqDiff, reduceCtorEq, Nat.reduceAdd, Res, List.map_cons, List.map_nil, e, hsg, sub_borrow hx hy hb]
end Sub32

/-! ### Same -/
def spSame : List AV → Option AV := sp2 0 fun L M => some (.val (.bool (decide (L = M))))
attribute [go_sem] spSame
namespace Same
def Γ : FuncId → Abs.Spec := fun _ => .none
theorem ΓOK : ∀ f, SpecOK Try.prog f (Γ f) := fun _ => trivial
theorem ok : PureOK Try.prog 54 spSame := by
  refine pure_of_awp (n := 26) [4] Try.func54 rfl rfl rfl ?_
  intro M0 w0 args r h
  obtain ⟨L, M, rfl, hL, hLl, hM, hMl, hr⟩ := sp2_some h
  cases hr
  clear h
  refine ⟨by simp, ?_⟩
  refine awp_seq_k fun K hK => ?_
  refine awp_region (Θ := Θ) (Γ := Γ) [0, 1, 4] ΘOK ΓOK rfl ?_
  repeat' (first
    | (with_reducible refine arun_nil ?_)
    | ((with_reducible apply arun_any); (focus exact rfl); (focus (simp (disch := first | assumption | (with_reducible exact okL_limbs _) | omega) only [go_sem, ↓reduceIte, Nat.reduceEqDiff, reduceCtorEq, Nat.reduceAdd]; with_reducible exact rfl)); with_reducible (first | refine okk_some ?_ | (refine okk_ite ?_ ?_; (focus omega)) | (refine okk_ifn ?_ ?_; (focus omega)))))
  all_goals (simp only [go_sem, ↓reduceIte, Nat.reduceEqDiff, reduceCtorEq, Nat.reduceAdd]; refine hK _ ?_; clear hK K)
  refine awp_seq_k fun K hK => ?_
  refine awp_seq_k fun K1 hK1 => ?_
  refine awp_region (Θ := Θ) (Γ := Γ) [0, 1, 4, 10] ΘOK ΓOK rfl ?_
  repeat' (first
    | (with_reducible refine arun_nil ?_)
    | ((with_reducible apply arun_any); (focus exact rfl); (focus (simp (disch := first | assumption | (with_reducible exact okL_limbs _) | omega) only [go_sem, ↓reduceIte, Nat.reduceEqDiff, reduceCtorEq, Nat.reduceAdd]; with_reducible exact rfl)); with_reducible (first | refine okk_some ?_ | (refine okk_ite ?_ ?_; (focus omega)) | (refine okk_ifn ?_ ?_; (focus omega)))))
  all_goals (simp only [go_sem, ↓reduceIte, Nat.reduceEqDiff, reduceCtorEq, Nat.reduceAdd]; refine hK1 _ ?_; clear hK1 K1)
  apply awp_cond
  (focus (simp only [go_sem, ↓reduceIte, Nat.reduceEqDiff, reduceCtorEq, Nat.reduceAdd]; exact rfl))
  all_goals intro hc
  ·
    refine awp_seq_k fun K1 hK1 => ?_
    refine awp_region (Θ := Θ) (Γ := Γ) [4] ΘOK ΓOK rfl ?_
    repeat' (first
      | (with_reducible refine arun_nil ?_)
      | ((with_reducible apply arun_any); (focus exact rfl); (focus (simp (disch := first | assumption | (with_reducible exact okL_limbs _) | omega) only [go_sem, ↓reduceIte, Nat.reduceEqDiff, reduceCtorEq, Nat.reduceAdd]; with_reducible exact rfl)); with_reducible (first | refine okk_some ?_ | (refine okk_ite ?_ ?_; (focus omega)) | (refine okk_ifn ?_ ?_; (focus omega)))))
    all_goals (simp only [go_sem, ↓reduceIte, Nat.reduceEqDiff, reduceCtorEq, Nat.reduceAdd]; refine hK1 _ ?_; clear hK1 K1)
    refine awp_ret ?_
    have hne : L ≠ M := fun e => by subst e; simp at hc
    simp only [go_sem, ↓reduceIte, Nat.reduceEqDiff, reduceCtorEq, Nat.reduceAdd, Res, hne, decide_false]
  · refine awp_skip ?_
    refine hK _ ?_; clear hK K
    have hlen : L.length = M.length := by simp at hc; omega
    clear hc
    refine awp_seq_k fun K hK => ?_
    refine awp_seq_k fun K1 hK1 => ?_
    refine awp_region (Θ := Θ) (Γ := Γ) [0, 1, 5] ΘOK ΓOK rfl ?_
    repeat' (first
      | (with_reducible refine arun_nil ?_)
      | ((with_reducible apply arun_any); (focus exact rfl); (focus (simp (disch := first | assumption | (with_reducible exact okL_limbs _) | omega) only [go_sem, ↓reduceIte, Nat.reduceEqDiff, reduceCtorEq, Nat.reduceAdd]; with_reducible exact rfl)); with_reducible (first | refine okk_some ?_ | (refine okk_ite ?_ ?_; (focus omega)) | (refine okk_ifn ?_ ?_; (focus omega)))))
    all_goals (simp only [go_sem, ↓reduceIte, Nat.reduceEqDiff, reduceCtorEq, Nat.reduceAdd]; refine hK1 _ ?_; clear hK1 K1)
    refine awp_block ?_
    refine awp_loop_st (ι := Nat) (fun n => [(0, .lst (ints .u32 L)), (1, .lst (ints .u32 M)), (5, vInt .i64 n)]) (fun _ => []) (fun n => L.length - n) (fun n => n ≤ L.length ∧ ∀ k, k < n → L.getD k 0 = M.getD k 0) 0 ⟨by omega, fun k hk => by omega⟩ (by simp [agree_cons, agree_nil, slook_cons, vInt]) rfl ?_
    rintro n ⟨h1, h2⟩
    refine awp_seq_k fun K2 hK2 => ?_
    refine awp_seq_k fun K3 hK3 => ?_
    refine awp_region (Θ := Θ) (Γ := Γ) [0, 1, 5, 14] ΘOK ΓOK rfl ?_
    repeat' (first
      | (with_reducible refine arun_nil ?_)
      | ((with_reducible apply arun_any); (focus exact rfl); (focus (simp (disch := first | assumption | (with_reducible exact okL_limbs _) | omega) only [go_sem, ↓reduceIte, Nat.reduceEqDiff, reduceCtorEq, Nat.reduceAdd]; with_reducible exact rfl)); with_reducible (first | refine okk_some ?_ | (refine okk_ite ?_ ?_; (focus omega)) | (refine okk_ifn ?_ ?_; (focus omega)))))
    all_goals (simp only [go_sem, ↓reduceIte, Nat.reduceEqDiff, reduceCtorEq, Nat.reduceAdd]; refine hK3 _ ?_; clear hK3 K3)
    apply awp_cond
    (focus (simp only [go_sem, ↓reduceIte, Nat.reduceEqDiff, reduceCtorEq, Nat.reduceAdd]; exact rfl))
    all_goals intro hc
    · refine awp_skip ?_
      refine hK2 _ ?_; clear hK2 K2
      have hn : n < L.length := by simpa using hc
      clear hc
      refine awp_seq_k fun K2 hK2 => ?_
      refine awp_block ?_
      refine awp_seq_k fun K3 hK3 => ?_
      refine awp_draw (Θ := Θ) (Γ := Γ) [0, 1, 5, 25] ΘOK ΓOK mixed rfl (by decide +kernel) ?_
      repeat' (first
        | (with_reducible refine arunD_nil ?_)
        | ((with_reducible apply arunD_step); (focus (simp (disch := first | assumption | (with_reducible exact okL_limbs _) | omega) only [go_sem, ↓reduceIte, Nat.reduceEqDiff, reduceCtorEq, Nat.reduceAdd]; with_reducible exact rfl)))
        | ((with_reducible apply arunD_if); (focus (simp (disch := first | assumption | (with_reducible exact okL_limbs _) | omega) only [go_sem, ↓reduceIte, Nat.reduceEqDiff, reduceCtorEq, Nat.reduceAdd]; with_reducible exact rfl)); (focus omega))
        | ((with_reducible apply arunD_ifn); (focus (simp (disch := first | assumption | (with_reducible exact okL_limbs _) | omega) only [go_sem, ↓reduceIte, Nat.reduceEqDiff, reduceCtorEq, Nat.reduceAdd]; with_reducible exact rfl)); (focus omega)))
      all_goals (simp only [go_sem, ↓reduceIte, Nat.reduceEqDiff, reduceCtorEq, Nat.reduceAdd])
      refine hK3 _ ?_; clear hK3 K3
      apply awp_cond
      (focus (simp only [go_sem, ↓reduceIte, Nat.reduceEqDiff, reduceCtorEq, Nat.reduceAdd]; exact rfl))
      all_goals intro hc
      ·
        refine awp_seq_k fun K3 hK3 => ?_
        refine awp_region (Θ := Θ) (Γ := Γ) [4] ΘOK ΓOK rfl ?_
        repeat' (first
          | (with_reducible refine arun_nil ?_)
          | ((with_reducible apply arun_any); (focus exact rfl); (focus (simp (disch := first | assumption | (with_reducible exact okL_limbs _) | omega) only [go_sem, ↓reduceIte, Nat.reduceEqDiff, reduceCtorEq, Nat.reduceAdd]; with_reducible exact rfl)); with_reducible (first | refine okk_some ?_ | (refine okk_ite ?_ ?_; (focus omega)) | (refine okk_ifn ?_ ?_; (focus omega)))))
        all_goals (simp only [go_sem, ↓reduceIte, Nat.reduceEqDiff, reduceCtorEq, Nat.reduceAdd]; refine hK3 _ ?_; clear hK3 K3)
        refine awp_ret ?_
        have hne : L ≠ M := fun e => by subst e; simp at hc
        simp only [go_sem, ↓reduceIte, Nat.reduceEqDiff, reduceCtorEq, Nat.reduceAdd, Res, hne, decide_false]
      · refine awp_skip ?_
        refine hK2 _ ?_; clear hK2 K2
        have hg : L.getD n 0 = M.getD n 0 := by simpa using hc
        refine awp_region (Θ := Θ) (Γ := Γ) [0, 1, 5] ΘOK ΓOK rfl ?_
        repeat' (first
          | (with_reducible refine arun_nil ?_)
          | ((with_reducible apply arun_any); (focus exact rfl); (focus (simp (disch := first | assumption | (with_reducible exact okL_limbs _) | omega) only [go_sem, ↓reduceIte, Nat.reduceEqDiff, reduceCtorEq, Nat.reduceAdd]; with_reducible exact rfl)); with_reducible (first | refine okk_some ?_ | (refine okk_ite ?_ ?_; (focus omega)) | (refine okk_ifn ?_ ?_; (focus omega)))))
        all_goals (simp only [go_sem, ↓reduceIte, Nat.reduceEqDiff, reduceCtorEq, Nat.reduceAdd])
        refine ⟨n + 1, ⟨by omega, fun k hk => ?_⟩, ?_, by omega⟩
        · by_cases hkn : k = n
          · subst hkn; exact hg
          · exact h2 k (by omega)
        ·
          first | (simp [agree_cons, agree_nil, slook_cons, vInt]; done) | (simp [agree_cons, agree_nil, slook_cons, vInt]; omega) | (simp [agree_cons, agree_nil, slook_cons, vInt]; grind)
    · refine awp_exit ?_
      rw [if_pos rfl]
      refine hK _ ?_
      have hn : ¬ n < L.length := by simpa using hc
      have he : L = M := ext_getD hlen (fun k hk => h2 k (by omega))
      clear hK K hK2 K2
      refine awp_seq_k fun K hK => ?_
      refine awp_region (Θ := Θ) (Γ := Γ) [4] ΘOK ΓOK rfl ?_
      repeat' (first
        | (with_reducible refine arun_nil ?_)
        | ((with_reducible apply arun_any); (focus exact rfl); (focus (simp (disch := first | assumption | (with_reducible exact okL_limbs _) | omega) only [go_sem, ↓reduceIte, Nat.reduceEqDiff, reduceCtorEq, Nat.reduceAdd]; with_reducible exact rfl)); with_reducible (first | refine okk_some ?_ | (refine okk_ite ?_ ?_; (focus omega)) | (refine okk_ifn ?_ ?_; (focus omega)))))
      all_goals (simp only [go_sem, ↓reduceIte, Nat.reduceEqDiff, reduceCtorEq, Nat.reduceAdd]; refine hK _ ?_; clear hK K)
      refine awp_ret ?_
      simp only [go_sem, ↓reduceIte, Nat.reduceEqDiff, reduceCtorEq, Nat.reduceAdd, Res, he, decide_true]
end Same
end Go.Proofs

namespace Go.Proofs
open Go.Abs Go.NatMath
set_option linter.unusedVariables false
set_option linter.unusedSimpArgs false

/-! ### nat.Plain -/
def spPlain : List AV → Option AV := sp1 0 fun L => some (U (nv L))
attribute [go_sem] spPlain
namespace Plain
def Γ : FuncId → Abs.Spec
  | 47 => .pure spTrim
  | 48 => .pure spClone
  | _ => .none
theorem ΓOK : ∀ f, SpecOK Try.prog f (Γ f) := by
  intro f
  unfold Γ
  split
  · exact ⟨⟨_, Try.func47, by decide +kernel, rfl⟩, Trim.ok⟩
  · exact ⟨⟨_, Try.func48, by decide +kernel, rfl⟩, Clone.ok⟩
  · trivial
attribute [local go_sem] Γ
theorem ok : PureOK Try.prog 25 spPlain := by
  refine pure_of_awp (n := 6) [2] Try.func25 rfl rfl rfl ?_
  intro M0 w0 args r h
  obtain ⟨L, rfl, hL, hLl, hr⟩ := sp1_some h
  cases hr
  clear h
  refine ⟨by simp, ?_⟩
  have hU := okL_limbs (nv L)
  have hUl := limbs_length_nv hL
  refine awp_seq_k fun K hK => ?_
  refine awp_region (Θ := Θ) (Γ := Γ) [0] ΘOK ΓOK rfl ?_
  repeat' (first
    | (with_reducible refine arun_nil ?_)
    | ((with_reducible apply arun_any); (focus exact rfl); (focus (simp (disch := first | assumption | (with_reducible exact okL_limbs _) | omega) only [go_sem, ↓reduceIte, Nat.reduceEqDiff, reduceCtorEq, Nat.reduceAdd]; with_reducible exact rfl)); with_reducible (first | refine okk_some ?_ | (refine okk_ite ?_ ?_; (focus omega)) | (refine okk_ifn ?_ ?_; (focus omega)))))
  all_goals (simp only [go_sem, ↓reduceIte, Nat.reduceEqDiff, reduceCtorEq, Nat.reduceAdd]; refine hK _ ?_; clear hK K)
  refine awp_seq_k fun K hK => ?_
  refine awp_region (Θ := Θ) (Γ := Γ) [2] ΘOK ΓOK rfl ?_
  repeat' (first
    | (with_reducible refine arun_nil ?_)
    | ((with_reducible apply arun_any); (focus exact rfl); (focus (simp (disch := first | assumption | (with_reducible exact okL_limbs _) | omega) only [go_sem, ↓reduceIte, Nat.reduceEqDiff, reduceCtorEq, Nat.reduceAdd]; with_reducible exact rfl)); with_reducible (first | refine okk_some ?_ | (refine okk_ite ?_ ?_; (focus omega)) | (refine okk_ifn ?_ ?_; (focus omega)))))
  all_goals (simp only [go_sem, ↓reduceIte, Nat.reduceEqDiff, reduceCtorEq, Nat.reduceAdd]; refine hK _ ?_; clear hK K)
  refine awp_ret ?_
  simp only [go_sem, ↓reduceIte, Nat.reduceEqDiff, reduceCtorEq, Nat.reduceAdd, Res]
end Plain

/-! ### nat.Cmp -/
def cmpN (a b : Nat) : Int := if a < b then -1 else if b < a then 1 else 0
def spCmp : List AV → Option AV := sp2 0 fun L M => some (.val (.int .i64 (cmpN (nv L) (nv M))))
attribute [go_sem] spCmp

theorem cmp_at {A C : List Int} (hA : okL A) (hC : okL C) (hl : A.length = C.length) {j : Nat} (hj : j < A.length) (hs : ∀ k, j < k → A.getD k 0 = C.getD k 0) (h : A.getD j 0 < C.getD j 0) : nv A < nv C := by
  have d : A.drop (j + 1) = C.drop (j + 1) := ext_getD (by simp [hl]) (fun k _ => by rw [getD_drop, getD_drop]; exact hs _ (by omega))
  have eA := iv_append (A.take (j + 1)) (A.drop (j + 1))
  have eC := iv_append (C.take (j + 1)) (C.drop (j + 1))
  rw [List.take_append_drop, iv_take_succ hA, List.length_take, Nat.min_eq_left (by omega)] at eA
  rw [List.take_append_drop, iv_take_succ hC, List.length_take, Nat.min_eq_left (by omega), ← d] at eC
  have h1 := iv_lt (okL_take j hA)
  rw [List.length_take, Nat.min_eq_left (by omega)] at h1
  have h2 := iv_nonneg (C.take j)
  have h3 : W j * (A.getD j 0 + 1) ≤ W j * C.getD j 0 := Int.mul_le_mul_of_nonneg_left (by omega) (Int.le_of_lt (W_pos j))
  rw [Int.mul_add, Int.mul_one] at h3
  have h4 : iv A < iv C := by omega
  unfold iv at h4
  omega

namespace Cmp
def Γ : FuncId → Abs.Spec
  | 47 => .pure spTrim
  | _ => .none
theorem ΓOK : ∀ f, SpecOK Try.prog f (Γ f) := by
  intro f
  unfold Γ
  split
  · exact ⟨⟨_, Try.func47, by decide +kernel, rfl⟩, Trim.ok⟩
  · trivial
attribute [local go_sem] Γ
theorem ok : PureOK Try.prog 27 spCmp := by
  refine pure_of_awp (n := 52) [4] Try.func27 rfl rfl rfl ?_
  intro M0 w0 args r h
  obtain ⟨L, M, rfl, hL, hLl, hM, hMl, hr⟩ := sp2_some h
  cases hr
  clear h
  refine ⟨by simp, ?_⟩
  have hA := okL_limbs (nv L)
  have hAl := limbs_length_nv hL
  have hC := okL_limbs (nv M)
  have hCl := limbs_length_nv hM
  refine awp_seq_k fun K hK => ?_
  refine awp_region (Θ := Θ) (Γ := Γ) [0, 1] ΘOK ΓOK rfl ?_
  repeat' (first
    | (with_reducible refine arun_nil ?_)
    | ((with_reducible apply arun_any); (focus exact rfl); (focus (simp (disch := first | assumption | (with_reducible exact okL_limbs _) | omega) only [go_sem, ↓reduceIte, Nat.reduceEqDiff, reduceCtorEq, Nat.reduceAdd]; with_reducible exact rfl)); with_reducible (first | refine okk_some ?_ | (refine okk_ite ?_ ?_; (focus omega)) | (refine okk_ifn ?_ ?_; (focus omega)))))
  all_goals (simp only [go_sem, ↓reduceIte, Nat.reduceEqDiff, reduceCtorEq, Nat.reduceAdd]; refine hK _ ?_; clear hK K)
  refine awp_seq_k fun K hK => ?_
  refine awp_region (Θ := Θ) (Γ := Γ) [0, 1] ΘOK ΓOK rfl ?_
  repeat' (first
    | (with_reducible refine arun_nil ?_)
    | ((with_reducible apply arun_any); (focus exact rfl); (focus (simp (disch := first | assumption | (with_reducible exact okL_limbs _) | omega) only [go_sem, ↓reduceIte, Nat.reduceEqDiff, reduceCtorEq, Nat.reduceAdd]; with_reducible exact rfl)); with_reducible (first | refine okk_some ?_ | (refine okk_ite ?_ ?_; (focus omega)) | (refine okk_ifn ?_ ?_; (focus omega)))))
  all_goals (simp only [go_sem, ↓reduceIte, Nat.reduceEqDiff, reduceCtorEq, Nat.reduceAdd]; refine hK _ ?_; clear hK K)
  generalize hAe : limbs (nv L) = A at *
  generalize hCe : limbs (nv M) = C at *
  have eA : nv A = nv L := by rw [← hAe, nv_limbs]
  have eC : nv C = nv M := by rw [← hCe, nv_limbs]
  refine awp_seq_k fun K hK => ?_
  refine awp_seq_k fun K1 hK1 => ?_
  refine awp_region (Θ := Θ) (Γ := Γ) [0, 1, 16] ΘOK ΓOK rfl ?_
  repeat' (first
    | (with_reducible refine arun_nil ?_)
    | ((with_reducible apply arun_any); (focus exact rfl); (focus (simp (disch := first | assumption | (with_reducible exact okL_limbs _) | omega) only [go_sem, ↓reduceIte, Nat.reduceEqDiff, reduceCtorEq, Nat.reduceAdd]; with_reducible exact rfl)); with_reducible (first | refine okk_some ?_ | (refine okk_ite ?_ ?_; (focus omega)) | (refine okk_ifn ?_ ?_; (focus omega)))))
  all_goals (simp only [go_sem, ↓reduceIte, Nat.reduceEqDiff, reduceCtorEq, Nat.reduceAdd]; refine hK1 _ ?_; clear hK1 K1)
  apply awp_cond
  (focus (simp only [go_sem, ↓reduceIte, Nat.reduceEqDiff, reduceCtorEq, Nat.reduceAdd]; exact rfl))
  all_goals intro hc
  · have hne : A.length ≠ C.length := by simp at hc; omega
    refine awp_seq_k fun K1 hK1 => ?_
    refine awp_seq_k fun K2 hK2 => ?_
    refine awp_region (Θ := Θ) (Γ := Γ) [21] ΘOK ΓOK rfl ?_
    repeat' (first
      | (with_reducible refine arun_nil ?_)
      | ((with_reducible apply arun_any); (focus exact rfl); (focus (simp (disch := first | assumption | (with_reducible exact okL_limbs _) | omega) only [go_sem, ↓reduceIte, Nat.reduceEqDiff, reduceCtorEq, Nat.reduceAdd]; with_reducible exact rfl)); with_reducible (first | refine okk_some ?_ | (refine okk_ite ?_ ?_; (focus omega)) | (refine okk_ifn ?_ ?_; (focus omega)))))
    all_goals (simp only [go_sem, ↓reduceIte, Nat.reduceEqDiff, reduceCtorEq, Nat.reduceAdd]; refine hK2 _ ?_; clear hK2 K2)
    apply awp_cond
    (focus (simp only [go_sem, ↓reduceIte, Nat.reduceEqDiff, reduceCtorEq, Nat.reduceAdd]; exact rfl))
    all_goals intro hc
    · have hlt : nv L < nv M := lt_of_limbs_length (by rw [hAe, hCe]; simpa using hc)
      refine awp_seq_k fun K2 hK2 => ?_
      refine awp_region (Θ := Θ) (Γ := Γ) [4] ΘOK ΓOK rfl ?_
      repeat' (first
        | (with_reducible refine arun_nil ?_)
        | ((with_reducible apply arun_any); (focus exact rfl); (focus (simp (disch := first | assumption | (with_reducible exact okL_limbs _) | omega) only [go_sem, ↓reduceIte, Nat.reduceEqDiff, reduceCtorEq, Nat.reduceAdd]; with_reducible exact rfl)); with_reducible (first | refine okk_some ?_ | (refine okk_ite ?_ ?_; (focus omega)) | (refine okk_ifn ?_ ?_; (focus omega)))))
      all_goals (simp only [go_sem, ↓reduceIte, Nat.reduceEqDiff, reduceCtorEq, Nat.reduceAdd]; refine hK2 _ ?_; clear hK2 K2)
      refine awp_ret ?_
      simp only [go_sem, ↓reduceIte, Nat.reduceEqDiff, reduceCtorEq, Nat.reduceAdd, Res, cmpN, hlt]
    · have hlt : nv M < nv L := lt_of_limbs_length (by rw [hAe, hCe]; simp at hc; omega)
      have hlt2 : ¬ nv L < nv M := by omega
      refine awp_skip ?_
      refine hK1 _ ?_; clear hK1 K1
      refine awp_seq_k fun K1 hK1 => ?_
      refine awp_region (Θ := Θ) (Γ := Γ) [4] ΘOK ΓOK rfl ?_
      repeat' (first
        | (with_reducible refine arun_nil ?_)
        | ((with_reducible apply arun_any); (focus exact rfl); (focus (simp (disch := first | assumption | (with_reducible exact okL_limbs _) | omega) only [go_sem, ↓reduceIte, Nat.reduceEqDiff, reduceCtorEq, Nat.reduceAdd]; with_reducible exact rfl)); with_reducible (first | refine okk_some ?_ | (refine okk_ite ?_ ?_; (focus omega)) | (refine okk_ifn ?_ ?_; (focus omega)))))
      all_goals (simp only [go_sem, ↓reduceIte, Nat.reduceEqDiff, reduceCtorEq, Nat.reduceAdd]; refine hK1 _ ?_; clear hK1 K1)
      refine awp_ret ?_
      simp only [go_sem, ↓reduceIte, Nat.reduceEqDiff, reduceCtorEq, Nat.reduceAdd, Res, cmpN, hlt, hlt2]
  · have hlen : A.length = C.length := by simp at hc; omega
    clear hc
    refine awp_skip ?_
    refine hK _ ?_; clear hK K
    refine awp_seq_k fun K hK => ?_
    refine awp_seq_k fun K1 hK1 => ?_
    refine awp_region (Θ := Θ) (Γ := Γ) [0, 1, 23, 24] ΘOK ΓOK rfl ?_
    repeat' (first
      | (with_reducible refine arun_nil ?_)
      | ((with_reducible apply arun_any); (focus exact rfl); (focus (simp (disch := first | assumption | (with_reducible exact okL_limbs _) | omega) only [go_sem, ↓reduceIte, Nat.reduceEqDiff, reduceCtorEq, Nat.reduceAdd]; with_reducible exact rfl)); with_reducible (first | refine okk_some ?_ | (refine okk_ite ?_ ?_; (focus omega)) | (refine okk_ifn ?_ ?_; (focus omega)))))
    all_goals (simp only [go_sem, ↓reduceIte, Nat.reduceEqDiff, reduceCtorEq, Nat.reduceAdd]; refine hK1 _ ?_; clear hK1 K1)
    refine awp_block ?_
    refine awp_loop_st (ι := Nat) (fun n => [(0, .lst (ints .u32 A)), (1, .lst (ints .u32 C)), (23, vInt .i64 A.length), (24, vInt .i64 n)]) (fun _ => []) (fun n => A.length - n) (fun n => n ≤ A.length ∧ ∀ k, A.length - n ≤ k → A.getD k 0 = C.getD k 0) 0 ⟨by omega, fun k hk => by rw [getD_ge A (by omega), getD_ge C (by omega)]⟩ (by simp [agree_cons, agree_nil, slook_cons, vInt]) rfl ?_
    rintro n ⟨h1, h2⟩
    refine awp_seq_k fun K2 hK2 => ?_
    refine awp_region (Θ := Θ) (Γ := Γ) [0, 1, 23, 24, 25] ΘOK ΓOK rfl ?_
    repeat' (first
      | (with_reducible refine arun_nil ?_)
      | ((with_reducible apply arun_any); (focus exact rfl); (focus (simp (disch := first | assumption | (with_reducible exact okL_limbs _) | omega) only [go_sem, ↓reduceIte, Nat.reduceEqDiff, reduceCtorEq, Nat.reduceAdd]; with_reducible exact rfl)); with_reducible (first | refine okk_some ?_ | (refine okk_ite ?_ ?_; (focus omega)) | (refine okk_ifn ?_ ?_; (focus omega)))))
    all_goals (simp only [go_sem, ↓reduceIte, Nat.reduceEqDiff, reduceCtorEq, Nat.reduceAdd]; refine hK2 _ ?_; clear hK2 K2)
    refine awp_seq_k fun K2 hK2 => ?_
    apply awp_cond
    (focus (simp only [go_sem, ↓reduceIte, Nat.reduceEqDiff, reduceCtorEq, Nat.reduceAdd]; exact rfl))
    all_goals intro hc
    · have hn : n < A.length := by simpa using hc
      clear hc
      refine awp_skip ?_
      refine hK2 _ ?_; clear hK2 K2
      refine awp_seq_k fun K2 hK2 => ?_
      refine awp_block ?_
      refine awp_seq_k fun K3 hK3 => ?_
      refine awp_region (Θ := Θ) (Γ := Γ) [0, 1, 5, 23, 24] ΘOK ΓOK rfl ?_
      repeat' (first
        | (with_reducible refine arun_nil ?_)
        | ((with_reducible apply arun_any); (focus exact rfl); (focus (simp (disch := first | assumption | (with_reducible exact okL_limbs _) | omega) only [go_sem, ↓reduceIte, Nat.reduceEqDiff, reduceCtorEq, Nat.reduceAdd]; with_reducible exact rfl)); with_reducible (first | refine okk_some ?_ | (refine okk_ite ?_ ?_; (focus omega)) | (refine okk_ifn ?_ ?_; (focus omega)))))
      all_goals (simp only [go_sem, ↓reduceIte, Nat.reduceEqDiff, reduceCtorEq, Nat.reduceAdd]; refine hK3 _ ?_; clear hK3 K3)
      refine awp_seq_k fun K3 hK3 => ?_
      refine awp_draw (Θ := Θ) (Γ := Γ) [0, 1, 6, 7, 23, 24] ΘOK ΓOK mixed rfl (by decide +kernel) ?_
      repeat' (first
        | (with_reducible refine arunD_nil ?_)
        | ((with_reducible apply arunD_step); (focus (simp (disch := first | assumption | (with_reducible exact okL_limbs _) | omega) only [go_sem, ↓reduceIte, Nat.reduceEqDiff, reduceCtorEq, Nat.reduceAdd]; with_reducible exact rfl)))
        | ((with_reducible apply arunD_if); (focus (simp (disch := first | assumption | (with_reducible exact okL_limbs _) | omega) only [go_sem, ↓reduceIte, Nat.reduceEqDiff, reduceCtorEq, Nat.reduceAdd]; with_reducible exact rfl)); (focus omega))
        | ((with_reducible apply arunD_ifn); (focus (simp (disch := first | assumption | (with_reducible exact okL_limbs _) | omega) only [go_sem, ↓reduceIte, Nat.reduceEqDiff, reduceCtorEq, Nat.reduceAdd]; with_reducible exact rfl)); (focus omega)))
      all_goals (simp only [go_sem, ↓reduceIte, Nat.reduceEqDiff, reduceCtorEq, Nat.reduceAdd])
      refine hK3 _ ?_; clear hK3 K3
      have e1 : ((A.length : Int) - 1 - (n : Int)).toNat = A.length - 1 - n := by omega
      have e2 : ((C.length : Int) - 1 - (n : Int)).toNat = A.length - 1 - n := by omega
      try rw [e1]
      try rw [e2]
      refine awp_block ?_
      refine awp_seq_k fun K4 hK4 => ?_
      refine awp_region (Θ := Θ) (Γ := Γ) [0, 1, 6, 7, 23, 24, 43] ΘOK ΓOK rfl ?_
      repeat' (first
        | (with_reducible refine arun_nil ?_)
        | ((with_reducible apply arun_any); (focus exact rfl); (focus (simp (disch := first | assumption | (with_reducible exact okL_limbs _) | omega) only [go_sem, ↓reduceIte, Nat.reduceEqDiff, reduceCtorEq, Nat.reduceAdd]; with_reducible exact rfl)); with_reducible (first | refine okk_some ?_ | (refine okk_ite ?_ ?_; (focus omega)) | (refine okk_ifn ?_ ?_; (focus omega)))))
      all_goals (simp only [go_sem, ↓reduceIte, Nat.reduceEqDiff, reduceCtorEq, Nat.reduceAdd]; refine hK4 _ ?_; clear hK4 K4)
      apply awp_cond
      (focus (simp only [go_sem, ↓reduceIte, Nat.reduceEqDiff, reduceCtorEq, Nat.reduceAdd]; exact rfl))
      all_goals intro hc
      · have hlt : nv L < nv M := by
          rw [← eA, ← eC]
          exact cmp_at hA hC hlen (j := A.length - 1 - n) (by omega) (fun k hk => h2 k (by omega)) (by simpa using hc)
        refine awp_seq_k fun K4 hK4 => ?_
        refine awp_region (Θ := Θ) (Γ := Γ) [4] ΘOK ΓOK rfl ?_
        repeat' (first
          | (with_reducible refine arun_nil ?_)
          | ((with_reducible apply arun_any); (focus exact rfl); (focus (simp (disch := first | assumption | (with_reducible exact okL_limbs _) | omega) only [go_sem, ↓reduceIte, Nat.reduceEqDiff, reduceCtorEq, Nat.reduceAdd]; with_reducible exact rfl)); with_reducible (first | refine okk_some ?_ | (refine okk_ite ?_ ?_; (focus omega)) | (refine okk_ifn ?_ ?_; (focus omega)))))
        all_goals (simp only [go_sem, ↓reduceIte, Nat.reduceEqDiff, reduceCtorEq, Nat.reduceAdd]; refine hK4 _ ?_; clear hK4 K4)
        refine awp_ret ?_
        simp only [go_sem, ↓reduceIte, Nat.reduceEqDiff, reduceCtorEq, Nat.reduceAdd, Res, cmpN, hlt]
      · have hge : C.getD (A.length - 1 - n) 0 ≤ A.getD (A.length - 1 - n) 0 := by simpa using hc
        clear hc
        refine awp_seq_k fun K4 hK4 => ?_
        refine awp_region (Θ := Θ) (Γ := Γ) [0, 1, 6, 7, 23, 24, 47] ΘOK ΓOK rfl ?_
        repeat' (first
          | (with_reducible refine arun_nil ?_)
          | ((with_reducible apply arun_any); (focus exact rfl); (focus (simp (disch := first | assumption | (with_reducible exact okL_limbs _) | omega) only [go_sem, ↓reduceIte, Nat.reduceEqDiff, reduceCtorEq, Nat.reduceAdd]; with_reducible exact rfl)); with_reducible (first | refine okk_some ?_ | (refine okk_ite ?_ ?_; (focus omega)) | (refine okk_ifn ?_ ?_; (focus omega)))))
        all_goals (simp only [go_sem, ↓reduceIte, Nat.reduceEqDiff, reduceCtorEq, Nat.reduceAdd]; refine hK4 _ ?_; clear hK4 K4)
        apply awp_cond
        (focus (simp only [go_sem, ↓reduceIte, Nat.reduceEqDiff, reduceCtorEq, Nat.reduceAdd]; exact rfl))
        all_goals intro hc
        · have hlt : nv M < nv L := by
            rw [← eA, ← eC]
            exact cmp_at hC hA hlen.symm (j := A.length - 1 - n) (by omega) (fun k hk => (h2 k (by omega)).symm) (by simpa using hc)
          have hlt2 : ¬ nv L < nv M := by omega
          refine awp_seq_k fun K4 hK4 => ?_
          refine awp_region (Θ := Θ) (Γ := Γ) [4] ΘOK ΓOK rfl ?_
          repeat' (first
            | (with_reducible refine arun_nil ?_)
            | ((with_reducible apply arun_any); (focus exact rfl); (focus (simp (disch := first | assumption | (with_reducible exact okL_limbs _) | omega) only [go_sem, ↓reduceIte, Nat.reduceEqDiff, reduceCtorEq, Nat.reduceAdd]; with_reducible exact rfl)); with_reducible (first | refine okk_some ?_ | (refine okk_ite ?_ ?_; (focus omega)) | (refine okk_ifn ?_ ?_; (focus omega)))))
          all_goals (simp only [go_sem, ↓reduceIte, Nat.reduceEqDiff, reduceCtorEq, Nat.reduceAdd]; refine hK4 _ ?_; clear hK4 K4)
          refine awp_ret ?_
          simp only [go_sem, ↓reduceIte, Nat.reduceEqDiff, reduceCtorEq, Nat.reduceAdd, Res, cmpN, hlt, hlt2]
        · have hle : A.getD (A.length - 1 - n) 0 ≤ C.getD (A.length - 1 - n) 0 := by simpa using hc
          refine awp_skip ?_
          refine hK2 _ ?_; clear hK2 K2
          refine awp_region (Θ := Θ) (Γ := Γ) [0, 1, 23, 24] ΘOK ΓOK rfl ?_
          repeat' (first
            | (with_reducible refine arun_nil ?_)
            | ((with_reducible apply arun_any); (focus exact rfl); (focus (simp (disch := first | assumption | (with_reducible exact okL_limbs _) | omega) only [go_sem, ↓reduceIte, Nat.reduceEqDiff, reduceCtorEq, Nat.reduceAdd]; with_reducible exact rfl)); with_reducible (first | refine okk_some ?_ | (refine okk_ite ?_ ?_; (focus omega)) | (refine okk_ifn ?_ ?_; (focus omega)))))
          all_goals (simp only [go_sem, ↓reduceIte, Nat.reduceEqDiff, reduceCtorEq, Nat.reduceAdd])
          refine ⟨n + 1, ⟨by omega, fun k hk => ?_⟩, ?_, by omega⟩
          · by_cases hkn : A.length - n ≤ k
            · exact h2 k hkn
            · have : k = A.length - 1 - n := by omega
              subst this
              omega
          ·
            first | (simp [agree_cons, agree_nil, slook_cons, vInt]; done) | (simp [agree_cons, agree_nil, slook_cons, vInt]; omega) | (simp [agree_cons, agree_nil, slook_cons, vInt]; grind)
    · refine awp_exit ?_
      rw [if_pos rfl]
      refine hK _ ?_
      clear hK K hK2 K2
      have hn : ¬ n < A.length := by simpa using hc
      have he : A = C := ext_getD hlen (fun k hk => h2 k (by omega))
      have hv : nv L = nv M := by rw [← eA, ← eC, he]
      refine awp_seq_k fun K hK => ?_
      refine awp_region (Θ := Θ) (Γ := Γ) [4] ΘOK ΓOK rfl ?_
      repeat' (first
        | (with_reducible refine arun_nil ?_)
        | ((with_reducible apply arun_any); (focus exact rfl); (focus (simp (disch := first | assumption | (with_reducible exact okL_limbs _) | omega) only [go_sem, ↓reduceIte, Nat.reduceEqDiff, reduceCtorEq, Nat.reduceAdd]; with_reducible exact rfl)); with_reducible (first | refine okk_some ?_ | (refine okk_ite ?_ ?_; (focus omega)) | (refine okk_ifn ?_ ?_; (focus omega)))))
      all_goals (simp only [go_sem, ↓reduceIte, Nat.reduceEqDiff, reduceCtorEq, Nat.reduceAdd]; refine hK _ ?_; clear hK K)
      refine awp_ret ?_
      simp only [go_sem, ↓reduceIte, Nat.reduceEqDiff, reduceCtorEq, Nat.reduceAdd, Res, cmpN, hv, Nat.lt_irrefl]
end Cmp
end Go.Proofs

namespace Go.Proofs
open Go.Abs Go.NatMath
set_option linter.unusedVariables false
set_option linter.unusedSimpArgs false

/-! ### nat.short -/
def spShort : List AV → Option AV
  | [x, .val (.int .u32 b)] => (decK 0 x).bind fun L => if 0 < b ∧ b < 4294967296 then some (.tup [U (nv L / b.toNat), .val (.int .u32 ((nv L : Int) % b))]) else none
  | _ => none
attribute [go_sem] spShort
theorem spShort_some {args : List AV} {r : AV} (h : spShort args = some r) : ∃ L b, args = [.lst (ints .u32 L), .val (.int .u32 b)] ∧ okL L ∧ L.length ≤ 35184372088831 ∧ (0 < b ∧ b < 4294967296) ∧ r = .tup [U (nv L / b.toNat), .val (.int .u32 ((nv L : Int) % b))] := by
  unfold spShort at h
  split at h
  · rename_i x b
    obtain ⟨L, h1, h2⟩ := Option.bind_eq_some_iff.1 h
    obtain ⟨rfl, h3, h4⟩ := decK_some h1
    split at h2
    · rename_i hc
      cases h2
      exact ⟨L, b, rfl, h3, by simpa using h4, hc, rfl⟩
    · cases h2
  · cases h

/-- One step from the top: what is above is divided already. -/
theorem short_step {L Q : List Int} (hL : okL L) (hQ : okL Q) {b rest : Int} {n : Nat} (hn : n + 1 ≤ L.length) (hlen : Q.length = L.length) (hb : 0 < b) (hr0 : 0 ≤ rest) (hrb : rest < b) (hb32 : b < 4294967296)
    (h : iv (L.drop (n + 1)) = iv (Q.drop (n + 1)) * b + rest) :
    iv (L.drop n) = iv ((Q.set n ((rest * 4294967296 + L.getD n 0) / b)).drop n) * b + (rest * 4294967296 + L.getD n 0) % b := by
  have hg := okL_get hL n
  have e1 : L.drop n = L.getD n 0 :: L.drop (n + 1) := by
    rw [List.getD_eq_getElem?_getD, List.getElem?_eq_getElem (by omega), Option.getD_some, List.drop_eq_getElem_cons]
  have hq0 : 0 ≤ (rest * 4294967296 + L.getD n 0) / b := Int.ediv_nonneg (by omega) (by omega)
  have hq1 : (rest * 4294967296 + L.getD n 0) / b < 4294967296 := by
    refine Int.ediv_lt_of_lt_mul hb ?_
    have : (rest + 1) * 4294967296 ≤ b * 4294967296 := by omega
    omega
  have e2 : (Q.set n ((rest * 4294967296 + L.getD n 0) / b)).drop n = ((rest * 4294967296 + L.getD n 0) / b) :: Q.drop (n + 1) := by
    rw [List.drop_eq_getElem_cons (by simp; omega)]
    simp [List.drop_set]
  have o1 : okL (L.getD n 0 :: L.drop (n + 1)) := okL_cons.2 ⟨hg, okL_drop _ hL⟩
  have o2 : okL (((rest * 4294967296 + L.getD n 0) / b) :: Q.drop (n + 1)) := okL_cons.2 ⟨⟨hq0, hq1⟩, okL_drop _ hQ⟩
  rw [e1, e2, iv_cons o1, iv_cons o2, h]
  have hdm := Int.mul_ediv_add_emod (rest * 4294967296 + L.getD n 0) b
  generalize (rest * 4294967296 + L.getD n 0) / b = q at *
  generalize (rest * 4294967296 + L.getD n 0) % b = m at *
  rw [Int.add_mul, Int.mul_comm q b, Int.mul_assoc]
  omega

namespace Short
def Γ : FuncId → Abs.Spec
  | 47 => .pure spTrim
  | _ => .none
theorem ΓOK : ∀ f, SpecOK Try.prog f (Γ f) := by
  intro f
  unfold Γ
  split
  · exact ⟨⟨_, Try.func47, by decide +kernel, rfl⟩, Trim.ok⟩
  · trivial
attribute [local go_sem] Γ
theorem ok : PureOK Try.prog 49 spShort := by
  refine pure_of_awp (n := 47) [4, 5] Try.func49 rfl rfl rfl ?_
  intro M0 w0 args r h
  obtain ⟨L, b, rfl, hL, hLl, hb, rfl⟩ := spShort_some h
  clear h
  refine ⟨by simp, ?_⟩
  refine awp_seq_k fun K hK => ?_
  refine awp_region (Θ := Θ) (Γ := Γ) [0, 1] ΘOK ΓOK rfl ?_
  repeat' (first
    | (with_reducible refine arun_nil ?_)
    | ((with_reducible apply arun_any); (focus exact rfl); (focus (simp (disch := first | assumption | (with_reducible exact okL_limbs _) | omega) only [go_sem, ↓reduceIte, Nat.reduceEqDiff, reduceCtorEq, Nat.reduceAdd]; with_reducible exact rfl)); with_reducible (first | refine okk_some ?_ | (refine okk_ite ?_ ?_; (focus omega)) | (refine okk_ifn ?_ ?_; (focus omega)))))
  all_goals (simp only [go_sem, ↓reduceIte, Nat.reduceEqDiff, reduceCtorEq, Nat.reduceAdd]; refine hK _ ?_; clear hK K)
  refine awp_seq_k fun K hK => ?_
  refine awp_region (Θ := Θ) (Γ := Γ) [0, 1, 4] ΘOK ΓOK rfl ?_
  repeat' (first
    | (with_reducible refine arun_nil ?_)
    | ((with_reducible apply arun_any); (focus exact rfl); (focus (simp (disch := first | assumption | (with_reducible exact okL_limbs _) | omega) only [go_sem, ↓reduceIte, Nat.reduceEqDiff, reduceCtorEq, Nat.reduceAdd]; with_reducible exact rfl)); with_reducible (first | refine okk_some ?_ | (refine okk_ite ?_ ?_; (focus omega)) | (refine okk_ifn ?_ ?_; (focus omega)))))
  all_goals (simp only [go_sem, ↓reduceIte, Nat.reduceEqDiff, reduceCtorEq, Nat.reduceAdd]; refine hK _ ?_; clear hK K)
  refine awp_seq_k fun K hK => ?_
  refine awp_region (Θ := Θ) (Γ := Γ) [0, 1, 4, 6] ΘOK ΓOK rfl ?_
  repeat' (first
    | (with_reducible refine arun_nil ?_)
    | ((with_reducible apply arun_any); (focus exact rfl); (focus (simp (disch := first | assumption | (with_reducible exact okL_limbs _) | omega) only [go_sem, ↓reduceIte, Nat.reduceEqDiff, reduceCtorEq, Nat.reduceAdd]; with_reducible exact rfl)); with_reducible (first | refine okk_some ?_ | (refine okk_ite ?_ ?_; (focus omega)) | (refine okk_ifn ?_ ?_; (focus omega)))))
  all_goals (simp only [go_sem, ↓reduceIte, Nat.reduceEqDiff, reduceCtorEq, Nat.reduceAdd]; refine hK _ ?_; clear hK K)
  refine awp_seq_k fun K hK => ?_
  refine awp_seq_k fun K1 hK1 => ?_
  refine awp_region (Θ := Θ) (Γ := Γ) [0, 1, 4, 6, 13, 14] ΘOK ΓOK rfl ?_
  repeat' (first
    | (with_reducible refine arun_nil ?_)
    | ((with_reducible apply arun_any); (focus exact rfl); (focus (simp (disch := first | assumption | (with_reducible exact okL_limbs _) | omega) only [go_sem, ↓reduceIte, Nat.reduceEqDiff, reduceCtorEq, Nat.reduceAdd]; with_reducible exact rfl)); with_reducible (first | refine okk_some ?_ | (refine okk_ite ?_ ?_; (focus omega)) | (refine okk_ifn ?_ ?_; (focus omega)))))
  all_goals (simp only [go_sem, ↓reduceIte, Nat.reduceEqDiff, reduceCtorEq, Nat.reduceAdd]; refine hK1 _ ?_; clear hK1 K1)
  refine awp_block ?_
  refine awp_loop_st (ι := Nat × List Int × Int) (fun p => [(0, .lst (ints .u32 L)), (1, vInt .u32 b), (4, .own 11), (6, vInt .u64 p.2.2), (13, vInt .i64 L.length), (14, vInt .i64 p.1)]) (fun p => [(11, ⟨48, 1, ints .u32 p.2.1, none⟩)]) (fun p => L.length - p.1)
    (fun p => p.1 ≤ L.length ∧ okL p.2.1 ∧ p.2.1.length = L.length ∧ 0 ≤ p.2.2 ∧ p.2.2 < b ∧ iv (L.drop (L.length - p.1)) = iv (p.2.1.drop (L.length - p.1)) * b + p.2.2) (0, List.replicate L.length 0, 0)
    ⟨by simp, okL_replicate _, by simp, by simp, by simp; omega, by simp [iv_nil]⟩ (by simp [agree_cons, agree_nil, slook_cons, vInt]) (by simp [ints]) ?_
  rintro ⟨n, Q, rest⟩ ⟨h1, h2, h3, h4, h5, h6⟩
  simp only at h1 h2 h3 h4 h5 h6 ⊢
  refine awp_seq_k fun K2 hK2 => ?_
  refine awp_region (Θ := Θ) (Γ := Γ) [0, 1, 4, 6, 13, 14, 15] ΘOK ΓOK rfl ?_
  repeat' (first
    | (with_reducible refine arun_nil ?_)
    | ((with_reducible apply arun_any); (focus exact rfl); (focus (simp (disch := first | assumption | (with_reducible exact okL_limbs _) | omega) only [go_sem, ↓reduceIte, Nat.reduceEqDiff, reduceCtorEq, Nat.reduceAdd]; with_reducible exact rfl)); with_reducible (first | refine okk_some ?_ | (refine okk_ite ?_ ?_; (focus omega)) | (refine okk_ifn ?_ ?_; (focus omega)))))
  all_goals (simp only [go_sem, ↓reduceIte, Nat.reduceEqDiff, reduceCtorEq, Nat.reduceAdd]; refine hK2 _ ?_; clear hK2 K2)
  refine awp_seq_k fun K2 hK2 => ?_
  apply awp_cond
  (focus (simp only [go_sem, ↓reduceIte, Nat.reduceEqDiff, reduceCtorEq, Nat.reduceAdd]; exact rfl))
  all_goals intro hc
  · have hn : n < L.length := by simpa using hc
    clear hc
    refine awp_skip ?_
    refine hK2 _ ?_; clear hK2 K2
    refine awp_seq_k fun K2 hK2 => ?_
    refine awp_block ?_
    refine awp_seq_k fun K3 hK3 => ?_
    refine awp_region (Θ := Θ) (Γ := Γ) [0, 1, 4, 6, 7, 13, 14] ΘOK ΓOK rfl ?_
    repeat' (first
      | (with_reducible refine arun_nil ?_)
      | ((with_reducible apply arun_any); (focus exact rfl); (focus (simp (disch := first | assumption | (with_reducible exact okL_limbs _) | omega) only [go_sem, ↓reduceIte, Nat.reduceEqDiff, reduceCtorEq, Nat.reduceAdd]; with_reducible exact rfl)); with_reducible (first | refine okk_some ?_ | (refine okk_ite ?_ ?_; (focus omega)) | (refine okk_ifn ?_ ?_; (focus omega)))))
    all_goals (simp only [go_sem, ↓reduceIte, Nat.reduceEqDiff, reduceCtorEq, Nat.reduceAdd]; refine hK3 _ ?_; clear hK3 K3)
    refine awp_seq_k fun K3 hK3 => ?_
    refine awp_region (Θ := Θ) (Γ := Γ) [0, 1, 4, 6, 8, 13, 14] ΘOK ΓOK rfl ?_
    repeat' (first
      | (with_reducible refine arun_nil ?_)
      | ((with_reducible apply arun_any); (focus exact rfl); (focus (simp (disch := first | assumption | (with_reducible exact okL_limbs _) | omega) only [go_sem, ↓reduceIte, Nat.reduceEqDiff, reduceCtorEq, Nat.reduceAdd]; with_reducible exact rfl)); with_reducible (first | refine okk_some ?_ | (refine okk_ite ?_ ?_; (focus omega)) | (refine okk_ifn ?_ ?_; (focus omega)))))
    all_goals (simp only [go_sem, ↓reduceIte, Nat.reduceEqDiff, reduceCtorEq, Nat.reduceAdd]; refine hK3 _ ?_; clear hK3 K3)
    have e1 : ((L.length : Int) - 1 - (n : Int)).toNat = L.length - 1 - n := by omega
    have hx := okL_get hL (L.length - 1 - n)
    have hs := short_step hL h2 (b := b) (rest := rest) (n := L.length - 1 - n) (by omega) h3 hb.1 h4 h5 hb.2 (by rw [show L.length - 1 - n + 1 = L.length - n by omega]; exact h6)
    generalize hxe : L.getD (L.length - 1 - n) 0 = x at *
    refine awp_seq_k fun K3 hK3 => ?_
    refine awp_region (Θ := Θ) (Γ := Γ) [0, 1, 4, 6, 8, 13, 14] ΘOK ΓOK rfl ?_
    repeat' (first
      | (with_reducible refine arun_nil ?_)
      | ((with_reducible apply arun_any); (focus exact rfl); (focus (simp (disch := first | assumption | (with_reducible exact okL_limbs _) | omega) only [go_sem, ↓reduceIte, Nat.reduceEqDiff, reduceCtorEq, Nat.reduceAdd, e1, hxe]; with_reducible exact rfl)); with_reducible (first | refine okk_some ?_ | (refine okk_ite ?_ ?_; (focus omega)) | (refine okk_ifn ?_ ?_; (focus omega)))))
    all_goals (simp only [go_sem, ↓reduceIte, Nat.reduceEqDiff, reduceCtorEq, Nat.reduceAdd]; refine hK3 _ ?_; clear hK3 K3)
    have hq0 : 0 ≤ (rest * 4294967296 + x) / b := Int.ediv_nonneg (by omega) (by omega)
    have hq1 : (rest * 4294967296 + x) / b < 4294967296 := by
      refine Int.ediv_lt_of_lt_mul hb.1 ?_
      have : (rest + 1) * 4294967296 ≤ b * 4294967296 := by omega
      omega
    have hm0 := Int.emod_nonneg (rest * 4294967296 + x) (show b ≠ 0 by omega)
    have hm1 := Int.emod_lt_of_pos (rest * 4294967296 + x) hb.1
    refine awp_seq_k fun K3 hK3 => ?_
    refine awp_region (Θ := Θ) (Γ := Γ) [0, 1, 4, 6, 8, 13, 14] ΘOK ΓOK rfl ?_
    repeat' (first
      | (with_reducible refine arun_nil ?_)
      | ((with_reducible apply arun_any); (focus exact rfl); (focus (simp (disch := first | assumption | (with_reducible exact okL_limbs _) | omega) only [go_sem, ↓reduceIte, Nat.reduceEqDiff, reduceCtorEq, Nat.reduceAdd, e1, hxe]; with_reducible exact rfl)); with_reducible (first | refine okk_some ?_ | (refine okk_ite ?_ ?_; (focus omega)) | (refine okk_ifn ?_ ?_; (focus omega)))))
    all_goals (simp only [go_sem, ↓reduceIte, Nat.reduceEqDiff, reduceCtorEq, Nat.reduceAdd]; refine hK3 _ ?_; clear hK3 K3)
    refine awp_region (Θ := Θ) (Γ := Γ) [0, 1, 4, 6, 13, 14] ΘOK ΓOK rfl ?_
    repeat' (first
      | (with_reducible refine arun_nil ?_)
      | ((with_reducible apply arun_any); (focus exact rfl); (focus (simp (disch := first | assumption | (with_reducible exact okL_limbs _) | omega) only [go_sem, ↓reduceIte, Nat.reduceEqDiff, reduceCtorEq, Nat.reduceAdd, e1, hxe]; with_reducible exact rfl)); with_reducible (first | refine okk_some ?_ | (refine okk_ite ?_ ?_; (focus omega)) | (refine okk_ifn ?_ ?_; (focus omega)))))
    all_goals (simp only [go_sem, ↓reduceIte, Nat.reduceEqDiff, reduceCtorEq, Nat.reduceAdd])
    refine hK2 _ ?_; clear hK2 K2
    refine awp_region (Θ := Θ) (Γ := Γ) [0, 1, 4, 6, 13, 14] ΘOK ΓOK rfl ?_
    repeat' (first
      | (with_reducible refine arun_nil ?_)
      | ((with_reducible apply arun_any); (focus exact rfl); (focus (simp (disch := first | assumption | (with_reducible exact okL_limbs _) | omega) only [go_sem, ↓reduceIte, Nat.reduceEqDiff, reduceCtorEq, Nat.reduceAdd, e1, hxe]; with_reducible exact rfl)); with_reducible (first | refine okk_some ?_ | (refine okk_ite ?_ ?_; (focus omega)) | (refine okk_ifn ?_ ?_; (focus omega)))))
    all_goals (simp only [go_sem, ↓reduceIte, Nat.reduceEqDiff, reduceCtorEq, Nat.reduceAdd])
    refine ⟨(n + 1, Q.set (L.length - 1 - n) ((rest * 4294967296 + x) / b), (rest * 4294967296 + x) % b), ⟨by simp only; omega, okL_set h2 _ ⟨hq0, hq1⟩, by simpa using h3, hm0, hm1, ?_⟩, ?_, ?_, ?_⟩
    · simp only
      rw [show L.length - (n + 1) = L.length - 1 - n by omega]
      exact hs
    ·
      first | (simp [agree_cons, agree_nil, slook_cons, vInt]; done) | (simp [agree_cons, agree_nil, slook_cons, vInt]; omega) | (simp [agree_cons, agree_nil, slook_cons, vInt]; grind)
    · rw [Int.emod_eq_of_lt hq0 hq1]
    · simp only; omega
  · refine awp_exit ?_
    rw [if_pos rfl]
    refine hK _ ?_
    clear hK K hK2 K2
    have hn : n = L.length := by simp at hc; omega
    subst hn
    have h7 : (nv L : Int) = (nv Q : Int) * b + rest := by
      have := h6
      rw [Nat.sub_self, List.drop_zero, List.drop_zero] at this
      exact this
    have hq : nv Q = nv L / b.toNat := by
      obtain ⟨c, rfl⟩ := Int.eq_ofNat_of_zero_le (Int.le_of_lt hb.1)
      obtain ⟨d, rfl⟩ := Int.eq_ofNat_of_zero_le h4
      have h8 : nv L = nv Q * c + d := by exact_mod_cast h7
      simp only [Int.toNat_natCast]
      rw [h8, Nat.mul_comm, Nat.mul_add_div (by omega), Nat.div_eq_of_lt (by omega)]
      rfl
    have hr : (nv L : Int) % b = rest := by
      rw [h7, Int.add_comm, Int.add_mul_emod_self_right, Int.emod_eq_of_lt h4 h5]
    have hr2 : rest % 4294967296 = rest := Int.emod_eq_of_lt h4 (by omega)
    refine awp_seq_k fun K hK => ?_
    refine awp_region (Θ := Θ) (Γ := Γ) [4, 5] ΘOK ΓOK rfl ?_
    repeat' (first
      | (with_reducible refine arun_nil ?_)
      | ((with_reducible apply arun_any); (focus exact rfl); (focus (simp (disch := first | assumption | (with_reducible exact okL_limbs _) | omega) only [go_sem, ↓reduceIte, Nat.reduceEqDiff, reduceCtorEq, Nat.reduceAdd]; with_reducible exact rfl)); with_reducible (first | refine okk_some ?_ | (refine okk_ite ?_ ?_; (focus omega)) | (refine okk_ifn ?_ ?_; (focus omega)))))
    all_goals (simp only [go_sem, ↓reduceIte, Nat.reduceEqDiff, reduceCtorEq, Nat.reduceAdd]; refine hK _ ?_; clear hK K)
    refine awp_ret ?_
    simp only [go_sem, ↓reduceIte, Nat.reduceEqDiff, reduceCtorEq, Nat.reduceAdd, Res, hq, hr, hr2]
end Short
end Go.Proofs

namespace Go.Proofs
open Go.Abs Go.NatMath
set_option linter.unusedVariables false
set_option linter.unusedSimpArgs false

/-! ### slices.Reverse of bytes -/
def fReverse : List AV → List Int → Option (AV × List Int)
  | [], S => if S.length ≤ 9223372036854775807 then some (.tup [], S.reverse) else none
  | _, _ => none
def spReverse : List AV → Hp → Option (AV × Hp) := spInpl .u8 fReverse
attribute [go_sem] spReverse fReverse
namespace Reverse
def Γ : FuncId → Abs.Spec := fun _ => .none
theorem ΓOK : ∀ f, SpecOK Try.prog f (Γ f) := fun _ => trivial
theorem ok : InplOK Try.prog 55 spReverse := by
  refine inpl_of_awp (n := 28) [] Try.func55 rfl rfl rfl ?_
  intro M0 w0 e hdr rest off len L S r hol hsp hS hr
  cases rest with
  | cons x xs => simp [fReverse] at hsp
  | nil =>
  have hsl : ((L.drop off).take len).length = len := by simp; omega
  simp only [fReverse, hsl] at hsp
  split at hsp
  case isFalse => cases hsp
  rename_i hbig
  simp only [Option.some.injEq, Prod.mk.injEq] at hsp
  obtain ⟨rfl, rfl⟩ := hsp
  refine ⟨by simp, ?_⟩
  refine awp_seq_k fun K hK => ?_
  refine awp_region (Θ := Θ) (Γ := Γ) [0, 2, 3] ΘOK ΓOK rfl ?_
  repeat' (first
    | (with_reducible refine arun_nil ?_)
    | ((with_reducible apply arun_any); (focus exact rfl); (focus (simp (disch := first | assumption | (with_reducible exact okL_limbs _) | omega) only [go_sem, ↓reduceIte, Nat.reduceEqDiff, reduceCtorEq, Nat.reduceAdd]; with_reducible exact rfl)); with_reducible (first | refine okk_some ?_ | (refine okk_ite ?_ ?_; (focus omega)) | (refine okk_ifn ?_ ?_; (focus omega)))))
  all_goals (simp only [go_sem, ↓reduceIte, Nat.reduceEqDiff, reduceCtorEq, Nat.reduceAdd]; refine hK _ ?_; clear hK K)
  refine awp_block ?_
  refine awp_loop_st (ι := Nat × List Int) (fun p => [(0, .ref 1000 off len), (2, vInt .i64 p.1), (3, vInt .i64 ((len : Int) - 1 - p.1))]) (fun p => [(1000, ⟨e, 1, ints .u8 p.2, hdr⟩)]) (fun p => len - p.1)
    (fun p => 2 * p.1 ≤ len + 1 ∧ p.2.length = L.length ∧ ∀ k, p.2.getD k 0 = if off ≤ k ∧ k < off + len ∧ (k - off < p.1 ∨ len - p.1 ≤ k - off) then L.getD (off + (len - 1 - (k - off))) 0 else L.getD k 0) (0, L)
    ⟨by simp, rfl, fun k => by rw [if_neg (by simp; omega)]⟩ (by simp [agree_cons, agree_nil, slook_cons, vInt]) (by simp) ?_
  rintro ⟨n, C⟩ ⟨h1, h2, h3⟩
  simp only at h1 h2 h3 ⊢
  refine awp_seq_k fun K hK => ?_
  refine awp_seq_k fun K1 hK1 => ?_
  refine awp_region (Θ := Θ) (Γ := Γ) [0, 2, 3, 9] ΘOK ΓOK rfl ?_
  repeat' (first
    | (with_reducible refine arun_nil ?_)
    | ((with_reducible apply arun_any); (focus exact rfl); (focus (simp (disch := first | assumption | (with_reducible exact okL_limbs _) | omega) only [go_sem, ↓reduceIte, Nat.reduceEqDiff, reduceCtorEq, Nat.reduceAdd]; with_reducible exact rfl)); with_reducible (first | refine okk_some ?_ | (refine okk_ite ?_ ?_; (focus omega)) | (refine okk_ifn ?_ ?_; (focus omega)))))
  all_goals (simp only [go_sem, ↓reduceIte, Nat.reduceEqDiff, reduceCtorEq, Nat.reduceAdd]; refine hK1 _ ?_; clear hK1 K1)
  apply awp_cond
  (focus (simp only [go_sem, ↓reduceIte, Nat.reduceEqDiff, reduceCtorEq, Nat.reduceAdd]; exact rfl))
  all_goals intro hc
  · have hn : (n : Int) < (len : Int) - 1 - n := by simpa using hc
    refine awp_skip ?_
    refine hK _ ?_; clear hK K
    refine awp_seq_k fun K hK => ?_
    refine awp_block ?_
    have e1 : ((len : Int) - 1 - (n : Int)).toNat = len - 1 - n := by omega
    refine awp_draw (Θ := Θ) (Γ := Γ) [0, 2, 3] ΘOK ΓOK mixed rfl (by decide +kernel) ?_
    repeat' (first
      | (with_reducible refine arunD_nil ?_)
      | ((with_reducible apply arunD_step); (focus (simp (disch := first | assumption | (with_reducible exact okL_limbs _) | omega) only [go_sem, ↓reduceIte, Nat.reduceEqDiff, reduceCtorEq, Nat.reduceAdd, e1]; with_reducible exact rfl)))
      | ((with_reducible apply arunD_if); (focus (simp (disch := first | assumption | (with_reducible exact okL_limbs _) | omega) only [go_sem, ↓reduceIte, Nat.reduceEqDiff, reduceCtorEq, Nat.reduceAdd, e1]; with_reducible exact rfl)); (focus omega))
      | ((with_reducible apply arunD_ifn); (focus (simp (disch := first | assumption | (with_reducible exact okL_limbs _) | omega) only [go_sem, ↓reduceIte, Nat.reduceEqDiff, reduceCtorEq, Nat.reduceAdd, e1]; with_reducible exact rfl)); (focus omega)))
    all_goals (simp only [go_sem, ↓reduceIte, Nat.reduceEqDiff, reduceCtorEq, Nat.reduceAdd])
    refine hK _ ?_; clear hK K
    have c1 : ((C.set (off + n) (C.getD (off + (len - 1 - n)) 0)).set (off + (len - 1 - n)) (C.getD (off + n) 0)).length = C.length := by simp
    have c2 : ∀ k, ((C.set (off + n) (C.getD (off + (len - 1 - n)) 0)).set (off + (len - 1 - n)) (C.getD (off + n) 0)).getD k 0 = if k = off + (len - 1 - n) then C.getD (off + n) 0 else if k = off + n then C.getD (off + (len - 1 - n)) 0 else C.getD k 0 := fun k => by
      rw [getD_set, getD_set, List.length_set]
      by_cases k1 : k = off + (len - 1 - n)
      · rw [if_pos ⟨k1, by omega⟩, if_pos k1]
      · rw [if_neg (fun e => k1 e.1), if_neg k1]
        by_cases k2 : k = off + n
        · rw [if_pos ⟨k2, by omega⟩, if_pos k2]
        · rw [if_neg (fun e => k2 e.1), if_neg k2]
    generalize (C.set (off + n) (C.getD (off + (len - 1 - n)) 0)).set (off + (len - 1 - n)) (C.getD (off + n) 0) = D at *
    refine awp_region (Θ := Θ) (Γ := Γ) [0, 2, 3] ΘOK ΓOK rfl ?_
    repeat' (first
      | (with_reducible refine arun_nil ?_)
      | ((with_reducible apply arun_any); (focus exact rfl); (focus (simp (disch := first | assumption | (with_reducible exact okL_limbs _) | omega) only [go_sem, ↓reduceIte, Nat.reduceEqDiff, reduceCtorEq, Nat.reduceAdd]; with_reducible exact rfl)); with_reducible (first | refine okk_some ?_ | (refine okk_ite ?_ ?_; (focus omega)) | (refine okk_ifn ?_ ?_; (focus omega)))))
    all_goals (simp only [go_sem, ↓reduceIte, Nat.reduceEqDiff, reduceCtorEq, Nat.reduceAdd])
    refine ⟨(n + 1, D), ⟨by simp only; omega, by simp only; omega, fun k => ?_⟩, ?_, rfl, by simp only; omega⟩
    · simp only
      have a1 := h3 (off + n)
      rw [if_neg (by omega)] at a1
      have a2 := h3 (off + (len - 1 - n))
      rw [if_neg (by omega)] at a2
      rw [c2 k, a1, a2, h3 k]
      by_cases k1 : k = off + (len - 1 - n)
      · rw [if_pos k1, if_pos (by omega)]
        congr 1; omega
      · rw [if_neg k1]
        by_cases k2 : k = off + n
        · rw [if_pos k2, if_pos (by omega)]
          congr 1; omega
        · rw [if_neg k2]
          by_cases k3 : off ≤ k ∧ k < off + len ∧ (k - off < n ∨ len - n ≤ k - off)
          · rw [if_pos k3, if_pos (by omega)]
          · rw [if_neg k3, if_neg (by omega)]
    ·
      first | (simp [agree_cons, agree_nil, slook_cons, vInt]; done) | (simp [agree_cons, agree_nil, slook_cons, vInt]; omega) | (simp [agree_cons, agree_nil, slook_cons, vInt]; grind)
  · have hn : ¬ (n : Int) < (len : Int) - 1 - n := by simpa using hc
    refine awp_exit ?_
    rw [if_pos rfl]
    refine ⟨rfl, ?_⟩
    have hC : C = L.take off ++ ((L.drop off).take len).reverse ++ L.drop (off + len) := by
      refine ext_getD (by simp; omega) (fun k hk => ?_)
      rw [h3 k, getD_append, getD_append]
      simp only [List.length_append, List.length_take, List.length_reverse, List.length_drop]
      by_cases k1 : k < off
      · rw [if_neg (by omega), if_pos (by omega), if_pos (by omega), getD_take, if_pos k1]
      · by_cases k2 : k < off + len
        · rw [if_pos (show k < min off L.length + min len (L.length - off) by omega), if_neg (show ¬ k < min off L.length by omega), getD_reverse _ (by simp; omega), hsl, getD_take, getD_drop]
          rw [if_pos (show len - 1 - (k - min off L.length) < len by omega)]
          split
          · congr 1; omega
          · congr 1; omega
        · rw [if_neg (by omega), if_neg (by omega), getD_drop]
          congr 1; omega
    rw [hC]
    rfl
end Reverse

/-! ### nat.Text -/
/-- A digit as a byte. -/
def dig (d : Nat) : Int := 48 + (d : Int)
/-- The digits of a number below 10^9, the lowest first, at most k; only those that matter where nothing is above. -/
def lowDigits : Nat → Nat → Bool → List Int
  | 0, _, _ => []
  | k + 1, r, more => if r = 0 ∧ more = false then [] else dig (r % 10) :: lowDigits k (r / 10) more
def revText (n : Nat) : List Int := if n = 0 then [] else lowDigits 9 (n % 1000000000) (decide (n / 1000000000 ≠ 0)) ++ revText (n / 1000000000)
termination_by n
decreasing_by exact Nat.div_lt_self (by omega) (by decide)
theorem lowDigits_length : ∀ (k r : Nat) (b : Bool), (lowDigits k r b).length ≤ k
  | 0, _, _ => by simp [lowDigits]
  | k + 1, r, b => by
    have := lowDigits_length k (r / 10) b
    simp only [lowDigits]
    split
    · simp
    · simp; omega
theorem revText_length {k n : Nat} (h : n < 1000000000 ^ k) : (revText n).length ≤ 9 * k := by
  induction k generalizing n with
  | zero =>
    have : n = 0 := by simp at h; exact h
    subst this; simp [revText]
  | succ k ih =>
    rw [revText]
    split
    · simp
    · have h1 : n / 1000000000 < 1000000000 ^ k := Nat.div_lt_of_lt_mul (by rw [Nat.pow_succ, Nat.mul_comm] at h; exact h)
      have h2 := ih h1
      have h3 := lowDigits_length 9 (n % 1000000000) (decide (n / 1000000000 ≠ 0))
      rw [List.length_append]
      omega
def textOf (n : Nat) : List Int := if n = 0 then [48] else (revText n).reverse
def spText : List AV → Option AV
  | [x] => (decK 0 x).bind fun L => if L.length ≤ 1000000 then some (vStr (strOfNums (textOf (nv L)))) else none
  | _ => none
attribute [go_sem] spText vStr
theorem spText_some {args : List AV} {r : AV} (h : spText args = some r) : ∃ L, args = [.lst (ints .u32 L)] ∧ okL L ∧ L.length ≤ 1000000 ∧ r = vStr (strOfNums (textOf (nv L))) := by
  unfold spText at h
  split at h
  · obtain ⟨L, h1, h2⟩ := Option.bind_eq_some_iff.1 h
    obtain ⟨rfl, h3, h4⟩ := decK_some h1
    split at h2
    · rename_i hc; cases h2; exact ⟨L, rfl, h3, hc, rfl⟩
    · cases h2
  · cases h

namespace Text
def Γ : FuncId → Abs.Spec
  | 25 => .pure spPlain
  | 49 => .pure spShort
  | 55 => .inpl spReverse
  | _ => .none
theorem ΓOK : ∀ f, SpecOK Try.prog f (Γ f) := by
  intro f
  unfold Γ
  split
  · exact ⟨⟨_, Try.func25, by decide +kernel, rfl⟩, Plain.ok⟩
  · exact ⟨⟨_, Try.func49, by decide +kernel, rfl⟩, Short.ok⟩
  · exact ⟨⟨_, Try.func55, by decide +kernel, rfl⟩, Reverse.ok⟩
  · trivial
attribute [local go_sem] Γ
theorem ok : PureOK Try.prog 23 spText := by
  refine pure_of_awp (n := 44) [2] Try.func23 rfl rfl rfl ?_
  intro M0 w0 args r h
  obtain ⟨L, rfl, hL, hLl, rfl⟩ := spText_some h
  clear h
  refine ⟨by simp, ?_⟩
  refine awp_seq_k fun K hK => ?_
  refine awp_region (Θ := Θ) (Γ := Γ) [0] ΘOK ΓOK rfl ?_
  repeat' (first
    | (with_reducible refine arun_nil ?_)
    | ((with_reducible apply arun_any); (focus exact rfl); (focus (simp (disch := first | assumption | (with_reducible exact okL_limbs _) | omega) only [go_sem, ↓reduceIte, Nat.reduceEqDiff, reduceCtorEq, Nat.reduceAdd]; with_reducible exact rfl)); with_reducible (first | refine okk_some ?_ | (refine okk_ite ?_ ?_; (focus omega)) | (refine okk_ifn ?_ ?_; (focus omega)))))
  all_goals (simp only [go_sem, ↓reduceIte, Nat.reduceEqDiff, reduceCtorEq, Nat.reduceAdd]; refine hK _ ?_; clear hK K)
  have hA := okL_limbs (nv L)
  have hAl := limbs_length_nv hL
  refine awp_seq_k fun K hK => ?_
  refine awp_region (Θ := Θ) (Γ := Γ) [0] ΘOK ΓOK rfl ?_
  repeat' (first
    | (with_reducible refine arun_nil ?_)
    | ((with_reducible apply arun_any); (focus exact rfl); (focus (simp (disch := first | assumption | (with_reducible exact okL_limbs _) | omega) only [go_sem, ↓reduceIte, Nat.reduceEqDiff, reduceCtorEq, Nat.reduceAdd]; with_reducible exact rfl)); with_reducible (first | refine okk_some ?_ | (refine okk_ite ?_ ?_; (focus omega)) | (refine okk_ifn ?_ ?_; (focus omega)))))
  all_goals (simp only [go_sem, ↓reduceIte, Nat.reduceEqDiff, reduceCtorEq, Nat.reduceAdd]; refine hK _ ?_; clear hK K)
  refine awp_seq_k fun K hK => ?_
  refine awp_seq_k fun K1 hK1 => ?_
  refine awp_region (Θ := Θ) (Γ := Γ) [0, 10] ΘOK ΓOK rfl ?_
  repeat' (first
    | (with_reducible refine arun_nil ?_)
    | ((with_reducible apply arun_any); (focus exact rfl); (focus (simp (disch := first | assumption | (with_reducible exact okL_limbs _) | omega) only [go_sem, ↓reduceIte, Nat.reduceEqDiff, reduceCtorEq, Nat.reduceAdd]; with_reducible exact rfl)); with_reducible (first | refine okk_some ?_ | (refine okk_ite ?_ ?_; (focus omega)) | (refine okk_ifn ?_ ?_; (focus omega)))))
  all_goals (simp only [go_sem, ↓reduceIte, Nat.reduceEqDiff, reduceCtorEq, Nat.reduceAdd]; refine hK1 _ ?_; clear hK1 K1)
  generalize hN : nv L = N at *
  apply awp_cond
  (focus (simp only [go_sem, ↓reduceIte, Nat.reduceEqDiff, reduceCtorEq, Nat.reduceAdd]; exact rfl))
  all_goals intro hc
  · have h0 : N = 0 := by rw [← limbs_eq_nil]; simpa using hc
    refine awp_seq_k fun K1 hK1 => ?_
    refine awp_region (Θ := Θ) (Γ := Γ) [2] ΘOK ΓOK rfl ?_
    repeat' (first
      | (with_reducible refine arun_nil ?_)
      | ((with_reducible apply arun_any); (focus exact rfl); (focus (simp (disch := first | assumption | (with_reducible exact okL_limbs _) | omega) only [go_sem, ↓reduceIte, Nat.reduceEqDiff, reduceCtorEq, Nat.reduceAdd]; with_reducible exact rfl)); with_reducible (first | refine okk_some ?_ | (refine okk_ite ?_ ?_; (focus omega)) | (refine okk_ifn ?_ ?_; (focus omega)))))
    all_goals (simp only [go_sem, ↓reduceIte, Nat.reduceEqDiff, reduceCtorEq, Nat.reduceAdd]; refine hK1 _ ?_; clear hK1 K1)
    refine awp_ret ?_
    subst h0
    rfl
  · have h0 : N ≠ 0 := by
      intro e; subst e; simp [limbs_zero] at hc
    clear hc
    refine awp_skip ?_
    refine hK _ ?_; clear hK K
    refine awp_seq_k fun K hK => ?_
    refine awp_region (Θ := Θ) (Γ := Γ) [0, 3] ΘOK ΓOK rfl ?_
    repeat' (first
      | (with_reducible refine arun_nil ?_)
      | ((with_reducible apply arun_any); (focus exact rfl); (focus (simp (disch := first | assumption | (with_reducible exact okL_limbs _) | omega) only [go_sem, ↓reduceIte, Nat.reduceEqDiff, reduceCtorEq, Nat.reduceAdd]; with_reducible exact rfl)); with_reducible (first | refine okk_some ?_ | (refine okk_ite ?_ ?_; (focus omega)) | (refine okk_ifn ?_ ?_; (focus omega)))))
    all_goals (simp only [go_sem, ↓reduceIte, Nat.reduceEqDiff, reduceCtorEq, Nat.reduceAdd]; refine hK _ ?_; clear hK K)
    have hlen : (revText N).length ≤ 18000000 := by
      have h1 : N < 1000000000 ^ (2 * L.length) := by
        rw [← hN, Nat.pow_mul]
        exact Nat.lt_of_lt_of_le (nv_lt hL) (Nat.pow_le_pow_left (by decide) _)
      have := revText_length h1
      omega
    refine awp_seq_k fun K hK => ?_
    refine awp_block ?_
    refine awp_loop_st (ι := Nat × List Int) (fun p => [(0, .lst (ints .u32 (limbs p.1))), (3, .own 11)]) (fun p => [(11, ⟨5, 1, ints .u8 p.2, none⟩)]) (fun p => p.1) (fun p => (limbs p.1).length ≤ 1000000 ∧ p.2 ++ revText p.1 = revText N) (N, []) ⟨by simp only; omega, rfl⟩ (by simp [agree_cons, agree_nil, slook_cons]) (by simp [ints]) ?_
    rintro ⟨m, D⟩ ⟨h1, h2⟩
    simp only at h1 h2 ⊢
    have hmok := okL_limbs m
    refine awp_seq_k fun K1 hK1 => ?_
    refine awp_seq_k fun K2 hK2 => ?_
    refine awp_region (Θ := Θ) (Γ := Γ) [0, 3, 14] ΘOK ΓOK rfl ?_
    repeat' (first
      | (with_reducible refine arun_nil ?_)
      | ((with_reducible apply arun_any); (focus exact rfl); (focus (simp (disch := first | assumption | (with_reducible exact okL_limbs _) | omega) only [go_sem, ↓reduceIte, Nat.reduceEqDiff, reduceCtorEq, Nat.reduceAdd]; with_reducible exact rfl)); with_reducible (first | refine okk_some ?_ | (refine okk_ite ?_ ?_; (focus omega)) | (refine okk_ifn ?_ ?_; (focus omega)))))
    all_goals (simp only [go_sem, ↓reduceIte, Nat.reduceEqDiff, reduceCtorEq, Nat.reduceAdd]; refine hK2 _ ?_; clear hK2 K2)
    apply awp_cond
    (focus (simp only [go_sem, ↓reduceIte, Nat.reduceEqDiff, reduceCtorEq, Nat.reduceAdd]; exact rfl))
    all_goals intro hc
    · have hm : m ≠ 0 := by
        intro e; subst e; simp [limbs_zero] at hc
      clear hc
      refine awp_skip ?_
      refine hK1 _ ?_; clear hK1 K1
      refine awp_block ?_
      refine awp_seq_k fun K1 hK1 => ?_
      refine awp_region (Θ := Θ) (Γ := Γ) [3, 4, 5] ΘOK ΓOK rfl ?_
      repeat' (first
        | (with_reducible refine arun_nil ?_)
        | ((with_reducible apply arun_any); (focus exact rfl); (focus (simp (disch := first | assumption | (with_reducible exact okL_limbs _) | omega) only [go_sem, ↓reduceIte, Nat.reduceEqDiff, reduceCtorEq, Nat.reduceAdd, nv_limbs]; with_reducible exact rfl)); with_reducible (first | refine okk_some ?_ | (refine okk_ite ?_ ?_; (focus omega)) | (refine okk_ifn ?_ ?_; (focus omega)))))
      all_goals (simp only [go_sem, ↓reduceIte, Nat.reduceEqDiff, reduceCtorEq, Nat.reduceAdd]; refine hK1 _ ?_; clear hK1 K1)
      rw [revText, if_neg hm] at h2
      have hr0 : (m : Int) % 1000000000 = ((m % 1000000000 : Nat) : Int) := by omega
      have hq0 : (1000000000 : Int).toNat = 1000000000 := rfl
      rw [hr0, hq0]
      generalize hqe : m / 1000000000 = q at *
      generalize hre : m % 1000000000 = r at *
      have hrl : r < 1000000000 := by omega
      have hqm : q < m := by omega
      have hql : (limbs q).length ≤ 1000000 := Nat.le_trans (limbs_length_mono (Nat.le_of_lt hqm)) h1
      have hqok := okL_limbs q
      refine awp_seq_k fun K1 hK1 => ?_
      refine awp_seq_k fun K2 hK2 => ?_
      refine awp_region (Θ := Θ) (Γ := Γ) [3, 4, 5, 20] ΘOK ΓOK rfl ?_
      repeat' (first
        | (with_reducible refine arun_nil ?_)
        | ((with_reducible apply arun_any); (focus exact rfl); (focus (simp (disch := first | assumption | (with_reducible exact okL_limbs _) | omega) only [go_sem, ↓reduceIte, Nat.reduceEqDiff, reduceCtorEq, Nat.reduceAdd]; with_reducible exact rfl)); with_reducible (first | refine okk_some ?_ | (refine okk_ite ?_ ?_; (focus omega)) | (refine okk_ifn ?_ ?_; (focus omega)))))
      all_goals (simp only [go_sem, ↓reduceIte, Nat.reduceEqDiff, reduceCtorEq, Nat.reduceAdd]; refine hK2 _ ?_; clear hK2 K2)
      refine awp_block ?_
      refine awp_loop_st (ι := Nat × Nat × List Int) (fun p => [(3, .own 11), (4, .lst (ints .u32 (limbs q))), (5, vInt .u32 p.2.1), (20, vInt .i64 p.1)]) (fun p => [(11, ⟨5, 1, ints .u8 p.2.2, none⟩)]) (fun p => 9 - p.1) (fun p => p.1 ≤ 9 ∧ p.2.1 < 1000000000 ∧ p.2.2 ++ (lowDigits (9 - p.1) p.2.1 (decide (q ≠ 0)) ++ revText q) = revText N) (0, r, D) ⟨by simp, by simpa using hrl, by simpa using h2⟩ (by simp [agree_cons, agree_nil, slook_cons, vInt]) rfl ?_
      rintro ⟨j, s, E⟩ ⟨g1, g2, g3⟩
      simp only at g1 g2 g3 ⊢
      refine awp_seq_k fun K3 hK3 => ?_
      refine awp_region (Θ := Θ) (Γ := Γ) [3, 4, 5, 20, 21] ΘOK ΓOK rfl ?_
      repeat' (first
        | (with_reducible refine arun_nil ?_)
        | ((with_reducible apply arun_any); (focus exact rfl); (focus (simp (disch := first | assumption | (with_reducible exact okL_limbs _) | omega) only [go_sem, ↓reduceIte, Nat.reduceEqDiff, reduceCtorEq, Nat.reduceAdd]; with_reducible exact rfl)); with_reducible (first | refine okk_some ?_ | (refine okk_ite ?_ ?_; (focus omega)) | (refine okk_ifn ?_ ?_; (focus omega)))))
      all_goals (simp only [go_sem, ↓reduceIte, Nat.reduceEqDiff, reduceCtorEq, Nat.reduceAdd]; refine hK3 _ ?_; clear hK3 K3)
      refine awp_seq_k fun K3 hK3 => ?_
      apply awp_cond
      (focus (simp only [go_sem, ↓reduceIte, Nat.reduceEqDiff, reduceCtorEq, Nat.reduceAdd]; exact rfl))
      all_goals intro hc
      · have hj : j < 9 := by simp at hc; omega
        clear hc
        refine awp_skip ?_
        refine hK3 _ ?_; clear hK3 K3
        refine awp_seq_k fun K3 hK3 => ?_
        refine awp_block ?_
        rw [show 9 - j = (9 - (j + 1)) + 1 by omega, lowDigits] at g3
        refine awp_seq_k fun K4 hK4 => ?_
        by_cases hz : s = 0 ∧ q = 0
        · obtain ⟨rfl, rfl⟩ := hz
          have hd : (((limbs 0).length : Int) == 0) = true := by simp [limbs_zero]
          have hd2 : (((0 : Nat) : Int) == 0) = true := rfl
          refine awp_seq_k fun K5 hK5 => ?_
          refine awp_region (Θ := Θ) (Γ := Γ) [3, 4, 28] ΘOK ΓOK rfl ?_
          repeat' (first
            | (with_reducible refine arun_nil ?_)
            | ((with_reducible apply arun_any); (focus exact rfl); (focus (simp (disch := first | assumption | (with_reducible exact okL_limbs _) | omega) only [go_sem, ↓reduceIte, Nat.reduceEqDiff, reduceCtorEq, Nat.reduceAdd, hd, hd2]; with_reducible exact rfl)); with_reducible (first | refine okk_some ?_ | (refine okk_ite ?_ ?_; (focus omega)) | (refine okk_ifn ?_ ?_; (focus omega))))
            | ((with_reducible apply arun_gyes); (focus exact rfl); (focus (simp only [go_sem, ↓reduceIte, Nat.reduceEqDiff, reduceCtorEq, Nat.reduceAdd, hd, hd2]; with_reducible exact rfl)); (focus first | assumption | exact rfl))
            | ((with_reducible apply arun_gundef); (focus exact rfl); (focus (simp only [go_sem, ↓reduceIte, Nat.reduceEqDiff, reduceCtorEq, Nat.reduceAdd, hd, hd2]; done)))
            | ((with_reducible apply arun_gno); (focus exact rfl); (focus (simp only [go_sem, ↓reduceIte, Nat.reduceEqDiff, reduceCtorEq, Nat.reduceAdd, hd, hd2]; with_reducible exact rfl)); (focus first | assumption | exact rfl))
            | ((with_reducible apply arun_guard); (focus exact rfl); (focus (simp only [go_sem, ↓reduceIte, Nat.reduceEqDiff, reduceCtorEq, Nat.reduceAdd, hd, hd2]; with_reducible exact rfl)); (focus intro hb); rotate_left; (focus intro hb); rotate_right))
          all_goals (simp only [go_sem, ↓reduceIte, Nat.reduceEqDiff, reduceCtorEq, Nat.reduceAdd]; refine hK5 _ ?_; clear hK5 K5)
          apply awp_cond
          (focus (simp only [go_sem, ↓reduceIte, Nat.reduceEqDiff, reduceCtorEq, Nat.reduceAdd]; exact rfl))
          all_goals intro hc
          · refine awp_exit ?_
            simp only [Nat.reduceEqDiff, ↓reduceIte]
            refine hK1 _ ?_
            clear hK1 hK3 hK4 K1 K3 K4
            refine awp_region (Θ := Θ) (Γ := Γ) [0, 3] ΘOK ΓOK rfl ?_
            repeat' (first
              | (with_reducible refine arun_nil ?_)
              | ((with_reducible apply arun_any); (focus exact rfl); (focus (simp (disch := first | assumption | (with_reducible exact okL_limbs _) | omega) only [go_sem, ↓reduceIte, Nat.reduceEqDiff, reduceCtorEq, Nat.reduceAdd]; with_reducible exact rfl)); with_reducible (first | refine okk_some ?_ | (refine okk_ite ?_ ?_; (focus omega)) | (refine okk_ifn ?_ ?_; (focus omega)))))
            all_goals (simp only [go_sem, ↓reduceIte, Nat.reduceEqDiff, reduceCtorEq, Nat.reduceAdd])
            refine ⟨(0, E), ⟨by simp [limbs_zero], by simpa using g3⟩, ?_, rfl, by simp only; omega⟩
            first | (simp [agree_cons, agree_nil, slook_cons, vInt]; done) | (simp [agree_cons, agree_nil, slook_cons, vInt]; omega) | (simp [agree_cons, agree_nil, slook_cons, vInt]; grind)
          · cases hc
        · rw [if_neg (by simp; omega)] at g3
          have hfin : ∀ σ : St, agree [(3, .own 11), (4, .lst (ints .u32 (limbs q))), (5, vInt .u32 s), (20, vInt .i64 j)] σ.t → σ.h = hlook [(11, ⟨5, 1, ints .u8 E, none⟩)] → K4 σ := by
            intro σ hag hh
            refine hK4 σ ?_
            refine awp_forget _ hag ?_
            rw [hh]
            have hE : E.length ≤ 18000000 := by
              have := congrArg List.length g3
              simp only [List.length_append] at this
              omega
            refine awp_seq_k fun K5 hK5 => ?_
            refine awp_region (Θ := Θ) (Γ := Γ) [3, 4, 5, 20] ΘOK ΓOK rfl ?_
            repeat' (first
              | (with_reducible refine arun_nil ?_)
              | ((with_reducible apply arun_any); (focus exact rfl); (focus (simp (disch := first | assumption | (with_reducible exact okL_limbs _) | omega) only [go_sem, ↓reduceIte, Nat.reduceEqDiff, reduceCtorEq, Nat.reduceAdd]; with_reducible exact rfl)); with_reducible (first | refine okk_some ?_ | (refine okk_ite ?_ ?_; (focus omega)) | (refine okk_ifn ?_ ?_; (focus omega)))))
            all_goals (simp only [go_sem, ↓reduceIte, Nat.reduceEqDiff, reduceCtorEq, Nat.reduceAdd]; refine hK5 _ ?_; clear hK5 K5)
            refine awp_region (Θ := Θ) (Γ := Γ) [3, 4, 5, 20] ΘOK ΓOK rfl ?_
            repeat' (first
              | (with_reducible refine arun_nil ?_)
              | ((with_reducible apply arun_any); (focus exact rfl); (focus (simp (disch := first | assumption | (with_reducible exact okL_limbs _) | omega) only [go_sem, ↓reduceIte, Nat.reduceEqDiff, reduceCtorEq, Nat.reduceAdd]; with_reducible exact rfl)); with_reducible (first | refine okk_some ?_ | (refine okk_ite ?_ ?_; (focus omega)) | (refine okk_ifn ?_ ?_; (focus omega)))))
            all_goals (simp only [go_sem, ↓reduceIte, Nat.reduceEqDiff, reduceCtorEq, Nat.reduceAdd])
            refine hK3 _ ?_
            refine awp_region (Θ := Θ) (Γ := Γ) [3, 4, 5, 20] ΘOK ΓOK rfl ?_
            repeat' (first
              | (with_reducible refine arun_nil ?_)
              | ((with_reducible apply arun_any); (focus exact rfl); (focus (simp (disch := first | assumption | (with_reducible exact okL_limbs _) | omega) only [go_sem, ↓reduceIte, Nat.reduceEqDiff, reduceCtorEq, Nat.reduceAdd]; with_reducible exact rfl)); with_reducible (first | refine okk_some ?_ | (refine okk_ite ?_ ?_; (focus omega)) | (refine okk_ifn ?_ ?_; (focus omega)))))
            all_goals (simp only [go_sem, ↓reduceIte, Nat.reduceEqDiff, reduceCtorEq, Nat.reduceAdd])
            refine ⟨(j + 1, s / 10, E ++ [dig (s % 10)]), ⟨by simp only; omega, by simp only; omega, by simpa using g3⟩, ?_, ?_, by simp only; omega⟩
            ·
              first | (simp [agree_cons, agree_nil, slook_cons, vInt]; done) | (simp [agree_cons, agree_nil, slook_cons, vInt]; omega) | (simp [agree_cons, agree_nil, slook_cons, vInt]; grind)
            · have e : (48 + (s : Int) % 10) % 4294967296 % 256 = dig (s % 10) := by unfold dig; omega
              rw [e]
          by_cases hq : q = 0
          · have hd : (((limbs q).length : Int) == 0) = true := by simp [hq, limbs_zero]
            have hd2 : ((s : Int) == 0) = false := by simp; omega
            refine awp_seq_k fun K5 hK5 => ?_
            refine awp_region (Θ := Θ) (Γ := Γ) [3, 4, 5, 20, 28] ΘOK ΓOK rfl ?_
            repeat' (first
              | (with_reducible refine arun_nil ?_)
              | ((with_reducible apply arun_any); (focus exact rfl); (focus (simp (disch := first | assumption | (with_reducible exact okL_limbs _) | omega) only [go_sem, ↓reduceIte, Nat.reduceEqDiff, reduceCtorEq, Nat.reduceAdd, hd, hd2]; with_reducible exact rfl)); with_reducible (first | refine okk_some ?_ | (refine okk_ite ?_ ?_; (focus omega)) | (refine okk_ifn ?_ ?_; (focus omega))))
              | ((with_reducible apply arun_gyes); (focus exact rfl); (focus (simp only [go_sem, ↓reduceIte, Nat.reduceEqDiff, reduceCtorEq, Nat.reduceAdd, hd, hd2]; with_reducible exact rfl)); (focus first | assumption | exact rfl))
              | ((with_reducible apply arun_gundef); (focus exact rfl); (focus (simp only [go_sem, ↓reduceIte, Nat.reduceEqDiff, reduceCtorEq, Nat.reduceAdd, hd, hd2]; done)))
              | ((with_reducible apply arun_gno); (focus exact rfl); (focus (simp only [go_sem, ↓reduceIte, Nat.reduceEqDiff, reduceCtorEq, Nat.reduceAdd, hd, hd2]; with_reducible exact rfl)); (focus first | assumption | exact rfl))
              | ((with_reducible apply arun_guard); (focus exact rfl); (focus (simp only [go_sem, ↓reduceIte, Nat.reduceEqDiff, reduceCtorEq, Nat.reduceAdd, hd, hd2]; with_reducible exact rfl)); (focus intro hb); rotate_left; (focus intro hb); rotate_right))
            all_goals (simp only [go_sem, ↓reduceIte, Nat.reduceEqDiff, reduceCtorEq, Nat.reduceAdd]; refine hK5 _ ?_; clear hK5 K5)
            apply awp_cond
            (focus (simp only [go_sem, ↓reduceIte, Nat.reduceEqDiff, reduceCtorEq, Nat.reduceAdd]; exact rfl))
            all_goals intro hc
            · cases hc
            · refine awp_skip ?_
              refine hfin _ ?_ rfl
              first | (simp [agree_cons, agree_nil, slook_cons, vInt]; done) | (simp [agree_cons, agree_nil, slook_cons, vInt]; omega) | (simp [agree_cons, agree_nil, slook_cons, vInt]; grind)
          · have hd : (((limbs q).length : Int) == 0) = false := by simp [limbs_eq_nil, hq]
            refine awp_seq_k fun K5 hK5 => ?_
            refine awp_region (Θ := Θ) (Γ := Γ) [3, 4, 5, 20, 28] ΘOK ΓOK rfl ?_
            repeat' (first
              | (with_reducible refine arun_nil ?_)
              | ((with_reducible apply arun_any); (focus exact rfl); (focus (simp (disch := first | assumption | (with_reducible exact okL_limbs _) | omega) only [go_sem, ↓reduceIte, Nat.reduceEqDiff, reduceCtorEq, Nat.reduceAdd, hd]; with_reducible exact rfl)); with_reducible (first | refine okk_some ?_ | (refine okk_ite ?_ ?_; (focus omega)) | (refine okk_ifn ?_ ?_; (focus omega))))
              | ((with_reducible apply arun_gyes); (focus exact rfl); (focus (simp only [go_sem, ↓reduceIte, Nat.reduceEqDiff, reduceCtorEq, Nat.reduceAdd, hd]; with_reducible exact rfl)); (focus first | assumption | exact rfl))
              | ((with_reducible apply arun_gundef); (focus exact rfl); (focus (simp only [go_sem, ↓reduceIte, Nat.reduceEqDiff, reduceCtorEq, Nat.reduceAdd, hd]; done)))
              | ((with_reducible apply arun_gno); (focus exact rfl); (focus (simp only [go_sem, ↓reduceIte, Nat.reduceEqDiff, reduceCtorEq, Nat.reduceAdd, hd]; with_reducible exact rfl)); (focus first | assumption | exact rfl))
              | ((with_reducible apply arun_guard); (focus exact rfl); (focus (simp only [go_sem, ↓reduceIte, Nat.reduceEqDiff, reduceCtorEq, Nat.reduceAdd, hd]; with_reducible exact rfl)); (focus intro hb); rotate_left; (focus intro hb); rotate_right))
            all_goals (simp only [go_sem, ↓reduceIte, Nat.reduceEqDiff, reduceCtorEq, Nat.reduceAdd]; refine hK5 _ ?_; clear hK5 K5)
            apply awp_cond
            (focus (simp only [go_sem, ↓reduceIte, Nat.reduceEqDiff, reduceCtorEq, Nat.reduceAdd]; exact rfl))
            all_goals intro hc
            · cases hc
            · refine awp_skip ?_
              refine hfin _ ?_ rfl
              first | (simp [agree_cons, agree_nil, slook_cons, vInt]; done) | (simp [agree_cons, agree_nil, slook_cons, vInt]; omega) | (simp [agree_cons, agree_nil, slook_cons, vInt]; grind)
      · refine awp_exit ?_
        have hj : j = 9 := by simp at hc; omega
        subst hj
        simp only [Nat.reduceEqDiff, ↓reduceIte]
        refine hK1 _ ?_
        clear hK1 hK3 K1 K3
        rw [Nat.sub_self, lowDigits, List.nil_append] at g3
        refine awp_region (Θ := Θ) (Γ := Γ) [0, 3] ΘOK ΓOK rfl ?_
        repeat' (first
          | (with_reducible refine arun_nil ?_)
          | ((with_reducible apply arun_any); (focus exact rfl); (focus (simp (disch := first | assumption | (with_reducible exact okL_limbs _) | omega) only [go_sem, ↓reduceIte, Nat.reduceEqDiff, reduceCtorEq, Nat.reduceAdd]; with_reducible exact rfl)); with_reducible (first | refine okk_some ?_ | (refine okk_ite ?_ ?_; (focus omega)) | (refine okk_ifn ?_ ?_; (focus omega)))))
        all_goals (simp only [go_sem, ↓reduceIte, Nat.reduceEqDiff, reduceCtorEq, Nat.reduceAdd])
        refine ⟨(q, E), ⟨hql, g3⟩, ?_, rfl, hqm⟩
        first | (simp [agree_cons, agree_nil, slook_cons, vInt]; done) | (simp [agree_cons, agree_nil, slook_cons, vInt]; omega) | (simp [agree_cons, agree_nil, slook_cons, vInt]; grind)
    · have hm : m = 0 := by
        rw [← limbs_eq_nil]; apply List.eq_nil_of_length_eq_zero
        simpa using hc
      subst hm
      refine awp_exit ?_
      rw [if_pos rfl]
      refine hK _ ?_
      clear hK hK1 K K1
      have hD : D = revText N := by
        rw [revText, if_pos rfl, List.append_nil] at h2
        exact h2
      have hDl : D.length ≤ 9223372036854775807 := by rw [hD]; omega
      refine awp_seq_k fun K hK => ?_
      refine awp_region (Θ := Θ) (Γ := Γ) [3] ΘOK ΓOK rfl ?_
      repeat' (first
        | (with_reducible refine arun_nil ?_)
        | ((with_reducible apply arun_any); (focus exact rfl); (focus (simp (disch := first | assumption | (with_reducible exact okL_limbs _) | omega) only [go_sem, ↓reduceIte, Nat.reduceEqDiff, reduceCtorEq, Nat.reduceAdd]; with_reducible exact rfl)); with_reducible (first | refine okk_some ?_ | (refine okk_ite ?_ ?_; (focus omega)) | (refine okk_ifn ?_ ?_; (focus omega)))))
      all_goals (simp only [go_sem, ↓reduceIte, Nat.reduceEqDiff, reduceCtorEq, Nat.reduceAdd]; refine hK _ ?_; clear hK K)
      refine awp_seq_k fun K hK => ?_
      refine awp_region (Θ := Θ) (Γ := Γ) [2] ΘOK ΓOK rfl ?_
      repeat' (first
        | (with_reducible refine arun_nil ?_)
        | ((with_reducible apply arun_any); (focus exact rfl); (focus (simp (disch := first | assumption | (with_reducible exact okL_limbs _) | omega) only [go_sem, ↓reduceIte, Nat.reduceEqDiff, reduceCtorEq, Nat.reduceAdd]; with_reducible exact rfl)); with_reducible (first | refine okk_some ?_ | (refine okk_ite ?_ ?_; (focus omega)) | (refine okk_ifn ?_ ?_; (focus omega)))))
      all_goals (simp only [go_sem, ↓reduceIte, Nat.reduceEqDiff, reduceCtorEq, Nat.reduceAdd]; refine hK _ ?_; clear hK K)
      refine awp_ret ?_
      simp only [go_sem, ↓reduceIte, Nat.reduceEqDiff, reduceCtorEq, Nat.reduceAdd, Res, textOf, h0, hD]
end Text
end Go.Proofs

namespace Go.Proofs
open Go.Abs Go.NatMath
set_option linter.unusedVariables false
set_option linter.unusedSimpArgs false

/-! ### nat.DivMod by one limb at most -/
def rDivMod (a b : Nat) : AV := .tup [U (a / b), U (a % b), .val (.bool (decide (b ≠ 0)))]
def spDivMod1 : List AV → Option AV := sp2 0 fun L M => if nv M < 4294967296 ∧ nv M ≠ 0 ∧ nv M ≤ nv L then some (rDivMod (nv L) (nv M)) else none
attribute [go_sem] spDivMod1 rDivMod
theorem limbs_one {n : Nat} (h : n ≠ 0) (hb : n < 4294967296) : limbs n = [(n : Int)] := by
  rw [limbs_pos h, Nat.mod_eq_of_lt (by unfold B; omega), Nat.div_eq_of_lt (by unfold B; omega), limbs_zero]
theorem nv_single (n : Nat) : nv [(n : Int)] = n := by simp [nv]

namespace DivMod1
def Γ : FuncId → Abs.Spec
  | 47 => .pure spTrim
  | 27 => .pure spCmp
  | 48 => .pure spClone
  | 49 => .pure spShort
  | _ => .none
theorem ΓOK : ∀ f, SpecOK Try.prog f (Γ f) := by
  intro f
  unfold Γ
  split
  · exact ⟨⟨_, Try.func47, by decide +kernel, rfl⟩, Trim.ok⟩
  · exact ⟨⟨_, Try.func27, by decide +kernel, rfl⟩, Cmp.ok⟩
  · exact ⟨⟨_, Try.func48, by decide +kernel, rfl⟩, Clone.ok⟩
  · exact ⟨⟨_, Try.func49, by decide +kernel, rfl⟩, Short.ok⟩
  · trivial
attribute [local go_sem] Γ
theorem ok : PureOK Try.prog 19 spDivMod1 := by
  refine pure_of_awp (n := 48) [4, 5, 6] Try.func19 rfl rfl rfl ?_
  intro M0 w0 args r h
  obtain ⟨L, M, rfl, hL, hLl, hM, hMl, hr⟩ := sp2_some h
  split at hr
  case isFalse => cases hr
  rename_i hb
  cases hr
  clear h
  refine ⟨by simp, ?_⟩
  have hA := okL_limbs (nv L)
  have hAl := limbs_length_nv hL
  have hone := limbs_one hb.2.1 hb.1
  have hMe : nv M < 4294967296 ∧ nv M ≠ 0 ∧ nv M ≤ nv L := hb
  refine awp_seq_k fun K hK => ?_
  refine awp_region (Θ := Θ) (Γ := Γ) [0, 1] ΘOK ΓOK rfl ?_
  repeat' (first
    | (with_reducible refine arun_nil ?_)
    | ((with_reducible apply arun_any); (focus exact rfl); (focus (simp (disch := first | assumption | (with_reducible exact okL_limbs _) | omega) only [go_sem, ↓reduceIte, Nat.reduceEqDiff, reduceCtorEq, Nat.reduceAdd]; with_reducible exact rfl)); with_reducible (first | refine okk_some ?_ | (refine okk_ite ?_ ?_; (focus omega)) | (refine okk_ifn ?_ ?_; (focus omega)))))
  all_goals (simp only [go_sem, ↓reduceIte, Nat.reduceEqDiff, reduceCtorEq, Nat.reduceAdd]; refine hK _ ?_; clear hK K)
  refine awp_seq_k fun K hK => ?_
  refine awp_region (Θ := Θ) (Γ := Γ) [0, 1] ΘOK ΓOK rfl ?_
  repeat' (first
    | (with_reducible refine arun_nil ?_)
    | ((with_reducible apply arun_any); (focus exact rfl); (focus (simp (disch := first | assumption | (with_reducible exact okL_limbs _) | omega) only [go_sem, ↓reduceIte, Nat.reduceEqDiff, reduceCtorEq, Nat.reduceAdd]; with_reducible exact rfl)); with_reducible (first | refine okk_some ?_ | (refine okk_ite ?_ ?_; (focus omega)) | (refine okk_ifn ?_ ?_; (focus omega)))))
  all_goals (simp only [go_sem, ↓reduceIte, Nat.reduceEqDiff, reduceCtorEq, Nat.reduceAdd]; refine hK _ ?_; clear hK K)
  generalize hm : nv M = m at *
  generalize hn : nv L = n at *
  have hC : okL (limbs m) := okL_limbs m
  have hCv : nv (limbs m) = m := nv_limbs m
  have hCl : (limbs m).length = 1 := by rw [hone]; rfl
  have hCg : (limbs m).getD 0 0 = (m : Int) := by rw [hone]; rfl
  have hAv : nv (limbs n) = n := nv_limbs n
  have hU : U m = .lst (ints .u32 (limbs m)) := rfl
  have hUn : U n = .lst (ints .u32 (limbs n)) := rfl
  generalize limbs m = C at *
  generalize limbs n = A at *
  refine awp_seq_k fun K hK => ?_
  refine awp_block ?_
  refine awp_seq_k fun K1 hK1 => ?_
  refine awp_region (Θ := Θ) (Γ := Γ) [0, 1, 13] ΘOK ΓOK rfl ?_
  repeat' (first
    | (with_reducible refine arun_nil ?_)
    | ((with_reducible apply arun_any); (focus exact rfl); (focus (simp (disch := first | assumption | (with_reducible exact okL_limbs _) | omega) only [go_sem, ↓reduceIte, Nat.reduceEqDiff, reduceCtorEq, Nat.reduceAdd]; with_reducible exact rfl)); with_reducible (first | refine okk_some ?_ | (refine okk_ite ?_ ?_; (focus omega)) | (refine okk_ifn ?_ ?_; (focus omega)))))
  all_goals (simp only [go_sem, ↓reduceIte, Nat.reduceEqDiff, reduceCtorEq, Nat.reduceAdd]; refine hK1 _ ?_; clear hK1 K1)
  apply awp_cond
  (focus (simp only [go_sem, ↓reduceIte, Nat.reduceEqDiff, reduceCtorEq, Nat.reduceAdd]; exact rfl))
  all_goals intro hc
  · simp [hCl] at hc
  · clear hc
    have hcmp : decide (cmpN (nv A) (nv C) < 0) = false := by
      rw [hAv, hCv]; unfold cmpN; simp; split <;> omega
    refine awp_seq_k fun K1 hK1 => ?_
    refine awp_region (Θ := Θ) (Γ := Γ) [0, 1, 17] ΘOK ΓOK rfl ?_
    repeat' (first
      | (with_reducible refine arun_nil ?_)
      | ((with_reducible apply arun_any); (focus exact rfl); (focus (simp (disch := first | assumption | (with_reducible exact okL_limbs _) | omega) only [go_sem, ↓reduceIte, Nat.reduceEqDiff, reduceCtorEq, Nat.reduceAdd, hcmp]; with_reducible exact rfl)); with_reducible (first | refine okk_some ?_ | (refine okk_ite ?_ ?_; (focus omega)) | (refine okk_ifn ?_ ?_; (focus omega)))))
    all_goals (simp only [go_sem, ↓reduceIte, Nat.reduceEqDiff, reduceCtorEq, Nat.reduceAdd]; refine hK1 _ ?_; clear hK1 K1)
    apply awp_cond
    (focus (simp only [go_sem, ↓reduceIte, Nat.reduceEqDiff, reduceCtorEq, Nat.reduceAdd]; exact rfl))
    all_goals intro hc
    · cases hc
    · clear hc
      refine awp_seq_k fun K1 hK1 => ?_
      refine awp_region (Θ := Θ) (Γ := Γ) [0, 1, 24] ΘOK ΓOK rfl ?_
      repeat' (first
        | (with_reducible refine arun_nil ?_)
        | ((with_reducible apply arun_any); (focus exact rfl); (focus (simp (disch := first | assumption | (with_reducible exact okL_limbs _) | omega) only [go_sem, ↓reduceIte, Nat.reduceEqDiff, reduceCtorEq, Nat.reduceAdd]; with_reducible exact rfl)); with_reducible (first | refine okk_some ?_ | (refine okk_ite ?_ ?_; (focus omega)) | (refine okk_ifn ?_ ?_; (focus omega)))))
      all_goals (simp only [go_sem, ↓reduceIte, Nat.reduceEqDiff, reduceCtorEq, Nat.reduceAdd]; refine hK1 _ ?_; clear hK1 K1)
      apply awp_cond
      (focus (simp only [go_sem, ↓reduceIte, Nat.reduceEqDiff, reduceCtorEq, Nat.reduceAdd]; exact rfl))
      all_goals intro hc
      · clear hc
        refine awp_seq_k fun K1 hK1 => ?_
        refine awp_region (Θ := Θ) (Γ := Γ) [7, 8] ΘOK ΓOK rfl ?_
        repeat' (first
          | (with_reducible refine arun_nil ?_)
          | ((with_reducible apply arun_any); (focus exact rfl); (focus (simp (disch := first | assumption | (with_reducible exact okL_limbs _) | omega) only [go_sem, ↓reduceIte, Nat.reduceEqDiff, reduceCtorEq, Nat.reduceAdd, hCg]; with_reducible exact rfl)); with_reducible (first | refine okk_some ?_ | (refine okk_ite ?_ ?_; (focus omega)) | (refine okk_ifn ?_ ?_; (focus omega)))))
        all_goals (simp only [go_sem, ↓reduceIte, Nat.reduceEqDiff, reduceCtorEq, Nat.reduceAdd]; refine hK1 _ ?_; clear hK1 K1)
        rw [hAv, show (n : Int) % (m : Int) = ((n % m : Nat) : Int) by omega]
        have hv : okL [((n % m : Nat) : Int)] := okL_cons.2 ⟨⟨by omega, by have := Nat.mod_lt n (show m > 0 by omega); omega⟩, okL_nil⟩
        have hvl : [((n % m : Nat) : Int)].length ≤ 35184372088831 := by simp
        have hvv := nv_single (n % m)
        refine awp_seq_k fun K1 hK1 => ?_
        refine awp_region (Θ := Θ) (Γ := Γ) [4, 5, 6] ΘOK ΓOK rfl ?_
        repeat' (first
          | (with_reducible refine arun_nil ?_)
          | ((with_reducible apply arun_any); (focus exact rfl); (focus (simp (disch := first | assumption | (with_reducible exact okL_limbs _) | omega) only [go_sem, ↓reduceIte, Nat.reduceEqDiff, reduceCtorEq, Nat.reduceAdd]; with_reducible exact rfl)); with_reducible (first | refine okk_some ?_ | (refine okk_ite ?_ ?_; (focus omega)) | (refine okk_ifn ?_ ?_; (focus omega)))))
        all_goals (simp only [go_sem, ↓reduceIte, Nat.reduceEqDiff, reduceCtorEq, Nat.reduceAdd]; refine hK1 _ ?_; clear hK1 K1)
        refine awp_ret ?_
        have hm0 : decide (m ≠ 0) = true := by simp; omega
        simp only [go_sem, ↓reduceIte, Nat.reduceEqDiff, reduceCtorEq, Nat.reduceAdd, Res, hvv, rDivMod, hm0]
      · simp [hCl] at hc
end DivMod1

/-! ### awake -/
def spAwake : List AV → Option AV
  | [] => some (.val (.bool true))
  | _ => none
attribute [go_sem] spAwake
namespace Awake
def Γ : FuncId → Abs.Spec
  | 19 => .pure spDivMod1
  | 54 => .pure spSame
  | 23 => .pure spText
  | _ => .none
theorem ΓOK : ∀ f, SpecOK Try.prog f (Γ f) := by
  intro f
  unfold Γ
  split
  · exact ⟨⟨_, Try.func19, by decide +kernel, rfl⟩, DivMod1.ok⟩
  · exact ⟨⟨_, Try.func54, by decide +kernel, rfl⟩, Same.ok⟩
  · exact ⟨⟨_, Try.func23, by decide +kernel, rfl⟩, Text.ok⟩
  · trivial
attribute [local go_sem] Γ
theorem ok : PureOK Try.prog 21 spAwake := by
  refine pure_of_awp (n := 27) [0] Try.func21 rfl rfl rfl ?_
  intro M0 w0 args r h
  cases args with
  | cons x xs => simp [spAwake] at h
  | nil =>
  simp only [spAwake, Option.some.injEq] at h
  subst h
  refine ⟨by simp, ?_⟩
  refine awp_seq_k fun K hK => ?_
  refine awp_region (Θ := Θ) (Γ := Γ) [0] ΘOK ΓOK rfl ?_
  repeat' (first
    | (with_reducible refine arun_nil ?_)
    | ((with_reducible apply arun_any); (focus exact rfl); (focus (simp (disch := first | assumption | (with_reducible exact okL_limbs _) | omega) only [go_sem, ↓reduceIte, Nat.reduceEqDiff, reduceCtorEq, Nat.reduceAdd]; with_reducible exact rfl)); with_reducible (first | refine okk_some ?_ | (refine okk_ite ?_ ?_; (focus omega)) | (refine okk_ifn ?_ ?_; (focus omega)))))
  all_goals (simp only [go_sem, ↓reduceIte, Nat.reduceEqDiff, reduceCtorEq, Nat.reduceAdd]; refine hK _ ?_; clear hK K)
  have hA : okL [0, 0, 1] := by intro x hx; simp at hx; omega
  have hAl : [(0 : Int), 0, 1].length ≤ 35184372088831 := by simp
  have hAv : nv [0, 0, 1] = 18446744073709551616 := rfl
  have hB : okL [3] := by intro x hx; simp at hx; omega
  have hBl : [(3 : Int)].length ≤ 35184372088831 := by simp
  have hBv : nv [3] = 3 := rfl
  have hq : limbs (18446744073709551616 / 3) = [1431655765, 1431655765] := by
    rw [show 18446744073709551616 / 3 = 6148914691236517205 from rfl, limbs_pos (by decide), show 6148914691236517205 / B = 1431655765 from rfl, limbs_one (by decide) (by decide)]
    rfl
  have hr : limbs (18446744073709551616 % 3) = [1] := by
    rw [show 18446744073709551616 % 3 = 1 from rfl, limbs_one (by decide) (by decide)]; rfl
  have h01 : okL [0, 1] := by intro x hx; simp at hx; omega
  have h01l : [(0 : Int), 1].length ≤ 1000000 := by simp
  have h01v : nv [0, 1] = 4294967296 := rfl
  have h1 : okL [1] := by intro x hx; simp at hx; omega
  have h1l : [(1 : Int)].length ≤ 35184372088831 := by simp
  have h55 : okL [1431655765, 1431655765] := by intro x hx; simp at hx; omega
  have h55l : [(1431655765 : Int), 1431655765].length ≤ 35184372088831 := by simp
  have hT : strOfNums (textOf 4294967296) = ⟨#[52, 50, 57, 52, 57, 54, 55, 50, 57, 54]⟩ := by
    rw [textOf, if_neg (by decide), revText, if_neg (by decide), show 4294967296 / 1000000000 = 4 from rfl, revText, if_neg (by decide), show 4 / 1000000000 = 0 from rfl, revText, if_pos rfl]
    decide +kernel
  refine awp_seq_k fun K hK => ?_
  refine awp_region (Θ := Θ) (Γ := Γ) [1, 2, 3] ΘOK ΓOK rfl ?_
  repeat' (first
    | (with_reducible refine arun_nil ?_)
    | ((with_reducible apply arun_any); (focus exact rfl); (focus (simp (disch := first | assumption | (with_reducible exact okL_limbs _) | omega) only [go_sem, ↓reduceIte, Nat.reduceEqDiff, reduceCtorEq, Nat.reduceAdd, hAv, hBv, hq, hr, decide_true]; with_reducible exact rfl)); with_reducible (first | refine okk_some ?_ | (refine okk_ite ?_ ?_; (focus omega)) | (refine okk_ifn ?_ ?_; (focus omega)))))
  all_goals (simp only [go_sem, ↓reduceIte, Nat.reduceEqDiff, reduceCtorEq, Nat.reduceAdd]; refine hK _ ?_; clear hK K)
  refine awp_seq_k fun K hK => ?_
  refine awp_region (Θ := Θ) (Γ := Γ) [0] ΘOK ΓOK rfl ?_
  repeat' (first
    | (with_reducible refine arun_nil ?_)
    | ((with_reducible apply arun_any); (focus exact rfl); (focus (simp (disch := first | assumption | (with_reducible exact okL_limbs _) | omega) only [go_sem, ↓reduceIte, Nat.reduceEqDiff, reduceCtorEq, Nat.reduceAdd, decide_true, h01v, hT, beq_self_eq_true]; with_reducible exact rfl)); with_reducible (first | refine okk_some ?_ | (refine okk_ite ?_ ?_; (focus omega)) | (refine okk_ifn ?_ ?_; (focus omega))))
    | ((with_reducible apply arun_gyes); (focus exact rfl); (focus (simp only [go_sem, ↓reduceIte, Nat.reduceEqDiff, reduceCtorEq, Nat.reduceAdd, decide_true, h01v, hT, beq_self_eq_true]; with_reducible exact rfl)); (focus first | assumption | exact rfl))
    | ((with_reducible apply arun_gundef); (focus exact rfl); (focus (simp only [go_sem, ↓reduceIte, Nat.reduceEqDiff, reduceCtorEq, Nat.reduceAdd, decide_true, h01v, hT, beq_self_eq_true]; done)))
    | ((with_reducible apply arun_gno); (focus exact rfl); (focus (simp only [go_sem, ↓reduceIte, Nat.reduceEqDiff, reduceCtorEq, Nat.reduceAdd, decide_true, h01v, hT, beq_self_eq_true]; with_reducible exact rfl)); (focus first | assumption | exact rfl))
    | ((with_reducible apply arun_guard); (focus exact rfl); (focus (simp only [go_sem, ↓reduceIte, Nat.reduceEqDiff, reduceCtorEq, Nat.reduceAdd, decide_true, h01v, hT, beq_self_eq_true]; with_reducible exact rfl)); (focus intro hb); rotate_left; (focus intro hb); rotate_right))
  all_goals (simp only [go_sem, ↓reduceIte, Nat.reduceEqDiff, reduceCtorEq, Nat.reduceAdd]; refine hK _ ?_; clear hK K)
  refine awp_ret ?_
  simp only [go_sem, ↓reduceIte, Nat.reduceEqDiff, reduceCtorEq, Nat.reduceAdd, decide_true, h01v, hT, beq_self_eq_true, Res]
end Awake
end Go.Proofs
