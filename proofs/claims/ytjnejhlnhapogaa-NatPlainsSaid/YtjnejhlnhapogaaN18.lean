/- Contracts of functions that the law reaches: what they compute. -/
import Derived.Test.YtjnejhlnhapogaaN17
namespace Go.Proofs
open Go.Abs Go.NatMath
set_option linter.unusedVariables false
set_option linter.unusedSimpArgs false

def spLen32 : List AV → Option AV
  | [.val (.int .u32 x)] => if 0 ≤ x ∧ x < 4294967296 then some (.val (.int .i64 (bl x.toNat : Int))) else none
  | _ => none
attribute [go_sem] spLen32
theorem bl_div {n k : Nat} (j : Nat) (h : 2 ^ j ≤ n) (hk : n / 2 ^ j = k) : bl n = bl k + j := by
  subst hk
  exact bl_shift j (Nat.ne_of_gt (Nat.div_pos h (Nat.pow_pos (by decide))))
namespace Len32
def Γ : FuncId → Abs.Spec := fun _ => .none
theorem ΓOK : ∀ f, SpecOK Try.prog f (Γ f) := fun _ => trivial
theorem ok : PureOK Try.prog 63 spLen32 := by
  refine pure_of_awp (n := 19) [2] Try.func63 rfl rfl rfl ?_
  intro M0 w0 args r h
  unfold spLen32 at h
  split at h
  case h_2 => cases h
  rename_i x
  split at h
  case isFalse => cases h
  rename_i hx
  cases h
  obtain ⟨n, rfl⟩ := Int.eq_ofNat_of_zero_le hx.1
  refine ⟨by simp, ?_⟩
  rw [Int.toNat_natCast]
  refine awp_seq_k fun K hK => ?_
  refine awp_region (Θ := Θ) (Γ := Γ) [0, 2] ΘOK ΓOK rfl ?_
  repeat' (first
    | (with_reducible refine arun_nil ?_)
    | ((with_reducible apply arun_step); (focus exact rfl); (focus (simp (disch := first | assumption | (with_reducible exact okL_limbs _) | omega) only [go_sem, ↓reduceIte, Nat.reduceEqDiff, reduceCtorEq, Nat.reduceAdd]; with_reducible exact rfl)))
    | ((with_reducible apply arun_if); (focus exact rfl); (focus (simp (disch := first | assumption | (with_reducible exact okL_limbs _) | omega) only [go_sem, ↓reduceIte, Nat.reduceEqDiff, reduceCtorEq, Nat.reduceAdd]; with_reducible exact rfl)); (focus omega))
    | ((with_reducible apply arun_ifn); (focus exact rfl); (focus (simp (disch := first | assumption | (with_reducible exact okL_limbs _) | omega) only [go_sem, ↓reduceIte, Nat.reduceEqDiff, reduceCtorEq, Nat.reduceAdd]; with_reducible exact rfl)); (focus omega))
    | ((with_reducible apply arun_gyes); (focus exact rfl); (focus (simp only [go_sem, ↓reduceIte, Nat.reduceEqDiff, reduceCtorEq, Nat.reduceAdd]; with_reducible exact rfl)); (focus first | assumption | exact rfl))
    | ((with_reducible apply arun_gno); (focus exact rfl); (focus (simp only [go_sem, ↓reduceIte, Nat.reduceEqDiff, reduceCtorEq, Nat.reduceAdd]; with_reducible exact rfl)); (focus first | assumption | exact rfl))
    | ((with_reducible apply arun_guard); (focus exact rfl); (focus (simp only [go_sem, ↓reduceIte, Nat.reduceEqDiff, reduceCtorEq, Nat.reduceAdd]; with_reducible exact rfl)); (focus intro hb); rotate_left; (focus intro hb); rotate_right))
  all_goals (simp only [go_sem, ↓reduceIte, Nat.reduceEqDiff, reduceCtorEq, Nat.reduceAdd]; refine hK _ ?_; clear hK K)
  refine awp_seq_k fun K hK => ?_
  have step2 : ∀ (y k : Nat) (σ : St), y < 65536 → k ≤ 16 → bl y + k = bl n → agree [(0, vInt .u32 y), (2, vInt .i64 k)] σ.t → σ.h = hlook [] → K σ := by
    intro y k σ hy hk hb hag hh
    refine hK σ ?_
    refine awp_forget _ hag ?_
    rw [hh]
    clear hK hag hh K
    refine awp_seq_k fun K hK => ?_
    have step3 : ∀ (y k : Nat) (σ : St), y < 256 → k ≤ 24 → bl y + k = bl n → agree [(0, vInt .u32 y), (2, vInt .i64 k)] σ.t → σ.h = hlook [] → K σ := by
      intro y k σ hy hk hb hag hh
      refine hK σ ?_
      refine awp_forget _ hag ?_
      rw [hh]
      clear hK hag hh K
      have hy8 := bl_le (n := y) (k := 8) (by omega)
      have e1 : (y : Int) % 256 = (y : Int) := by omega
      refine awp_seq_k fun K hK => ?_
      refine awp_region (Θ := Θ) (Γ := Γ) [2] ΘOK ΓOK rfl ?_
      iterate 3 (with_reducible apply arun_step; (focus exact rfl); (focus (simp (disch := first | assumption | omega) only [go_sem, ↓reduceIte, Nat.reduceEqDiff, reduceCtorEq, Nat.reduceAdd]; with_reducible exact rfl)))
      refine arun_step rfl (astep_tab rfl rfl (by decide +kernel) (k := (y : Int)) (by simp only [go_sem, ↓reduceIte, Nat.reduceEqDiff, reduceCtorEq, Nat.reduceAdd, e1]) (by omega) (by omega)) ?_
      rw [Int.toNat_natCast]
      repeat' (first
        | (with_reducible refine arun_nil ?_)
        | ((with_reducible apply arun_step); (focus exact rfl); (focus (simp (disch := first | assumption | (with_reducible exact okL_limbs _) | omega) only [go_sem, ↓reduceIte, Nat.reduceEqDiff, reduceCtorEq, Nat.reduceAdd]; with_reducible exact rfl)))
        | ((with_reducible apply arun_if); (focus exact rfl); (focus (simp (disch := first | assumption | (with_reducible exact okL_limbs _) | omega) only [go_sem, ↓reduceIte, Nat.reduceEqDiff, reduceCtorEq, Nat.reduceAdd]; with_reducible exact rfl)); (focus omega))
        | ((with_reducible apply arun_ifn); (focus exact rfl); (focus (simp (disch := first | assumption | (with_reducible exact okL_limbs _) | omega) only [go_sem, ↓reduceIte, Nat.reduceEqDiff, reduceCtorEq, Nat.reduceAdd]; with_reducible exact rfl)); (focus omega))
        | ((with_reducible apply arun_gyes); (focus exact rfl); (focus (simp only [go_sem, ↓reduceIte, Nat.reduceEqDiff, reduceCtorEq, Nat.reduceAdd]; with_reducible exact rfl)); (focus first | assumption | exact rfl))
        | ((with_reducible apply arun_gno); (focus exact rfl); (focus (simp only [go_sem, ↓reduceIte, Nat.reduceEqDiff, reduceCtorEq, Nat.reduceAdd]; with_reducible exact rfl)); (focus first | assumption | exact rfl))
        | ((with_reducible apply arun_guard); (focus exact rfl); (focus (simp only [go_sem, ↓reduceIte, Nat.reduceEqDiff, reduceCtorEq, Nat.reduceAdd]; with_reducible exact rfl)); (focus intro hb); rotate_left; (focus intro hb); rotate_right))
      all_goals (simp only [go_sem, ↓reduceIte, Nat.reduceEqDiff, reduceCtorEq, Nat.reduceAdd]; refine hK _ ?_; clear hK K)
      refine awp_ret ?_
      have e2 : (k : Int) + (bl y : Int) = (bl n : Int) := by omega
      simp only [go_sem, ↓reduceIte, Nat.reduceEqDiff, reduceCtorEq, Nat.reduceAdd, Res, e2]
    refine awp_seq_k fun K1 hK1 => ?_
    refine awp_region (Θ := Θ) (Γ := Γ) [0, 2, 8] ΘOK ΓOK rfl ?_
    repeat' (first
      | (with_reducible refine arun_nil ?_)
      | ((with_reducible apply arun_step); (focus exact rfl); (focus (simp (disch := first | assumption | (with_reducible exact okL_limbs _) | omega) only [go_sem, ↓reduceIte, Nat.reduceEqDiff, reduceCtorEq, Nat.reduceAdd]; with_reducible exact rfl)))
      | ((with_reducible apply arun_if); (focus exact rfl); (focus (simp (disch := first | assumption | (with_reducible exact okL_limbs _) | omega) only [go_sem, ↓reduceIte, Nat.reduceEqDiff, reduceCtorEq, Nat.reduceAdd]; with_reducible exact rfl)); (focus omega))
      | ((with_reducible apply arun_ifn); (focus exact rfl); (focus (simp (disch := first | assumption | (with_reducible exact okL_limbs _) | omega) only [go_sem, ↓reduceIte, Nat.reduceEqDiff, reduceCtorEq, Nat.reduceAdd]; with_reducible exact rfl)); (focus omega))
      | ((with_reducible apply arun_gyes); (focus exact rfl); (focus (simp only [go_sem, ↓reduceIte, Nat.reduceEqDiff, reduceCtorEq, Nat.reduceAdd]; with_reducible exact rfl)); (focus first | assumption | exact rfl))
      | ((with_reducible apply arun_gno); (focus exact rfl); (focus (simp only [go_sem, ↓reduceIte, Nat.reduceEqDiff, reduceCtorEq, Nat.reduceAdd]; with_reducible exact rfl)); (focus first | assumption | exact rfl))
      | ((with_reducible apply arun_guard); (focus exact rfl); (focus (simp only [go_sem, ↓reduceIte, Nat.reduceEqDiff, reduceCtorEq, Nat.reduceAdd]; with_reducible exact rfl)); (focus intro hb); rotate_left; (focus intro hb); rotate_right))
    all_goals (simp only [go_sem, ↓reduceIte, Nat.reduceEqDiff, reduceCtorEq, Nat.reduceAdd]; refine hK1 _ ?_; clear hK1 K1)
    apply awp_cond
    (focus (simp only [go_sem, ↓reduceIte, Nat.reduceEqDiff, reduceCtorEq, Nat.reduceAdd]; exact rfl))
    all_goals intro hc
    · have hge : 256 ≤ y := by simp at hc; omega
      refine awp_seq_k fun K1 hK1 => ?_
      refine awp_region (Θ := Θ) (Γ := Γ) [0, 2] ΘOK ΓOK rfl ?_
      repeat' (first
        | (with_reducible refine arun_nil ?_)
        | ((with_reducible apply arun_step); (focus exact rfl); (focus (simp (disch := first | assumption | (with_reducible exact okL_limbs _) | omega) only [go_sem, ↓reduceIte, Nat.reduceEqDiff, reduceCtorEq, Nat.reduceAdd]; with_reducible exact rfl)))
        | ((with_reducible apply arun_if); (focus exact rfl); (focus (simp (disch := first | assumption | (with_reducible exact okL_limbs _) | omega) only [go_sem, ↓reduceIte, Nat.reduceEqDiff, reduceCtorEq, Nat.reduceAdd]; with_reducible exact rfl)); (focus omega))
        | ((with_reducible apply arun_ifn); (focus exact rfl); (focus (simp (disch := first | assumption | (with_reducible exact okL_limbs _) | omega) only [go_sem, ↓reduceIte, Nat.reduceEqDiff, reduceCtorEq, Nat.reduceAdd]; with_reducible exact rfl)); (focus omega))
        | ((with_reducible apply arun_gyes); (focus exact rfl); (focus (simp only [go_sem, ↓reduceIte, Nat.reduceEqDiff, reduceCtorEq, Nat.reduceAdd]; with_reducible exact rfl)); (focus first | assumption | exact rfl))
        | ((with_reducible apply arun_gno); (focus exact rfl); (focus (simp only [go_sem, ↓reduceIte, Nat.reduceEqDiff, reduceCtorEq, Nat.reduceAdd]; with_reducible exact rfl)); (focus first | assumption | exact rfl))
        | ((with_reducible apply arun_guard); (focus exact rfl); (focus (simp only [go_sem, ↓reduceIte, Nat.reduceEqDiff, reduceCtorEq, Nat.reduceAdd]; with_reducible exact rfl)); (focus intro hb); rotate_left; (focus intro hb); rotate_right))
      all_goals (simp only [go_sem, ↓reduceIte, Nat.reduceEqDiff, reduceCtorEq, Nat.reduceAdd]; refine hK1 _ ?_; clear hK1 K1)
      refine awp_region (Θ := Θ) (Γ := Γ) [0, 2] ΘOK ΓOK rfl ?_
      repeat' (first
        | (with_reducible refine arun_nil ?_)
        | ((with_reducible apply arun_step); (focus exact rfl); (focus (simp (disch := first | assumption | (with_reducible exact okL_limbs _) | omega) only [go_sem, ↓reduceIte, Nat.reduceEqDiff, reduceCtorEq, Nat.reduceAdd]; with_reducible exact rfl)))
        | ((with_reducible apply arun_if); (focus exact rfl); (focus (simp (disch := first | assumption | (with_reducible exact okL_limbs _) | omega) only [go_sem, ↓reduceIte, Nat.reduceEqDiff, reduceCtorEq, Nat.reduceAdd]; with_reducible exact rfl)); (focus omega))
        | ((with_reducible apply arun_ifn); (focus exact rfl); (focus (simp (disch := first | assumption | (with_reducible exact okL_limbs _) | omega) only [go_sem, ↓reduceIte, Nat.reduceEqDiff, reduceCtorEq, Nat.reduceAdd]; with_reducible exact rfl)); (focus omega))
        | ((with_reducible apply arun_gyes); (focus exact rfl); (focus (simp only [go_sem, ↓reduceIte, Nat.reduceEqDiff, reduceCtorEq, Nat.reduceAdd]; with_reducible exact rfl)); (focus first | assumption | exact rfl))
        | ((with_reducible apply arun_gno); (focus exact rfl); (focus (simp only [go_sem, ↓reduceIte, Nat.reduceEqDiff, reduceCtorEq, Nat.reduceAdd]; with_reducible exact rfl)); (focus first | assumption | exact rfl))
        | ((with_reducible apply arun_guard); (focus exact rfl); (focus (simp only [go_sem, ↓reduceIte, Nat.reduceEqDiff, reduceCtorEq, Nat.reduceAdd]; with_reducible exact rfl)); (focus intro hb); rotate_left; (focus intro hb); rotate_right))
      all_goals (simp only [go_sem, ↓reduceIte, Nat.reduceEqDiff, reduceCtorEq, Nat.reduceAdd])
      refine step3 (y / 256) (k + 8) _ (by omega) (by omega) (by have e := bl_div (n := y) (k := y / 256) 8 (show 2 ^ 8 ≤ y from hge) rfl; omega) ?_ rfl
      first | (simp [agree_cons, agree_nil, slook_cons, vInt]; done) | (simp [agree_cons, agree_nil, slook_cons, vInt]; omega) | (simp [agree_cons, agree_nil, slook_cons, vInt]; grind)
    · have hlt : y < 256 := by simp at hc; omega
      refine awp_skip ?_
      refine step3 y k _ hlt (by omega) hb ?_ rfl
      first | (simp [agree_cons, agree_nil, slook_cons, vInt]; done) | (simp [agree_cons, agree_nil, slook_cons, vInt]; omega) | (simp [agree_cons, agree_nil, slook_cons, vInt]; grind)
  refine awp_seq_k fun K1 hK1 => ?_
  refine awp_region (Θ := Θ) (Γ := Γ) [0, 2, 4] ΘOK ΓOK rfl ?_
  repeat' (first
    | (with_reducible refine arun_nil ?_)
    | ((with_reducible apply arun_step); (focus exact rfl); (focus (simp (disch := first | assumption | (with_reducible exact okL_limbs _) | omega) only [go_sem, ↓reduceIte, Nat.reduceEqDiff, reduceCtorEq, Nat.reduceAdd]; with_reducible exact rfl)))
    | ((with_reducible apply arun_if); (focus exact rfl); (focus (simp (disch := first | assumption | (with_reducible exact okL_limbs _) | omega) only [go_sem, ↓reduceIte, Nat.reduceEqDiff, reduceCtorEq, Nat.reduceAdd]; with_reducible exact rfl)); (focus omega))
    | ((with_reducible apply arun_ifn); (focus exact rfl); (focus (simp (disch := first | assumption | (with_reducible exact okL_limbs _) | omega) only [go_sem, ↓reduceIte, Nat.reduceEqDiff, reduceCtorEq, Nat.reduceAdd]; with_reducible exact rfl)); (focus omega))
    | ((with_reducible apply arun_gyes); (focus exact rfl); (focus (simp only [go_sem, ↓reduceIte, Nat.reduceEqDiff, reduceCtorEq, Nat.reduceAdd]; with_reducible exact rfl)); (focus first | assumption | exact rfl))
    | ((with_reducible apply arun_gno); (focus exact rfl); (focus (simp only [go_sem, ↓reduceIte, Nat.reduceEqDiff, reduceCtorEq, Nat.reduceAdd]; with_reducible exact rfl)); (focus first | assumption | exact rfl))
    | ((with_reducible apply arun_guard); (focus exact rfl); (focus (simp only [go_sem, ↓reduceIte, Nat.reduceEqDiff, reduceCtorEq, Nat.reduceAdd]; with_reducible exact rfl)); (focus intro hb); rotate_left; (focus intro hb); rotate_right))
  all_goals (simp only [go_sem, ↓reduceIte, Nat.reduceEqDiff, reduceCtorEq, Nat.reduceAdd]; refine hK1 _ ?_; clear hK1 K1)
  apply awp_cond
  (focus (simp only [go_sem, ↓reduceIte, Nat.reduceEqDiff, reduceCtorEq, Nat.reduceAdd]; exact rfl))
  all_goals intro hc
  · have hge : 65536 ≤ n := by simp at hc; omega
    refine awp_seq_k fun K1 hK1 => ?_
    refine awp_region (Θ := Θ) (Γ := Γ) [0, 2] ΘOK ΓOK rfl ?_
    repeat' (first
      | (with_reducible refine arun_nil ?_)
      | ((with_reducible apply arun_step); (focus exact rfl); (focus (simp (disch := first | assumption | (with_reducible exact okL_limbs _) | omega) only [go_sem, ↓reduceIte, Nat.reduceEqDiff, reduceCtorEq, Nat.reduceAdd]; with_reducible exact rfl)))
      | ((with_reducible apply arun_if); (focus exact rfl); (focus (simp (disch := first | assumption | (with_reducible exact okL_limbs _) | omega) only [go_sem, ↓reduceIte, Nat.reduceEqDiff, reduceCtorEq, Nat.reduceAdd]; with_reducible exact rfl)); (focus omega))
      | ((with_reducible apply arun_ifn); (focus exact rfl); (focus (simp (disch := first | assumption | (with_reducible exact okL_limbs _) | omega) only [go_sem, ↓reduceIte, Nat.reduceEqDiff, reduceCtorEq, Nat.reduceAdd]; with_reducible exact rfl)); (focus omega))
      | ((with_reducible apply arun_gyes); (focus exact rfl); (focus (simp only [go_sem, ↓reduceIte, Nat.reduceEqDiff, reduceCtorEq, Nat.reduceAdd]; with_reducible exact rfl)); (focus first | assumption | exact rfl))
      | ((with_reducible apply arun_gno); (focus exact rfl); (focus (simp only [go_sem, ↓reduceIte, Nat.reduceEqDiff, reduceCtorEq, Nat.reduceAdd]; with_reducible exact rfl)); (focus first | assumption | exact rfl))
      | ((with_reducible apply arun_guard); (focus exact rfl); (focus (simp only [go_sem, ↓reduceIte, Nat.reduceEqDiff, reduceCtorEq, Nat.reduceAdd]; with_reducible exact rfl)); (focus intro hb); rotate_left; (focus intro hb); rotate_right))
    all_goals (simp only [go_sem, ↓reduceIte, Nat.reduceEqDiff, reduceCtorEq, Nat.reduceAdd]; refine hK1 _ ?_; clear hK1 K1)
    refine awp_region (Θ := Θ) (Γ := Γ) [0, 2] ΘOK ΓOK rfl ?_
    repeat' (first
      | (with_reducible refine arun_nil ?_)
      | ((with_reducible apply arun_step); (focus exact rfl); (focus (simp (disch := first | assumption | (with_reducible exact okL_limbs _) | omega) only [go_sem, ↓reduceIte, Nat.reduceEqDiff, reduceCtorEq, Nat.reduceAdd]; with_reducible exact rfl)))
      | ((with_reducible apply arun_if); (focus exact rfl); (focus (simp (disch := first | assumption | (with_reducible exact okL_limbs _) | omega) only [go_sem, ↓reduceIte, Nat.reduceEqDiff, reduceCtorEq, Nat.reduceAdd]; with_reducible exact rfl)); (focus omega))
      | ((with_reducible apply arun_ifn); (focus exact rfl); (focus (simp (disch := first | assumption | (with_reducible exact okL_limbs _) | omega) only [go_sem, ↓reduceIte, Nat.reduceEqDiff, reduceCtorEq, Nat.reduceAdd]; with_reducible exact rfl)); (focus omega))
      | ((with_reducible apply arun_gyes); (focus exact rfl); (focus (simp only [go_sem, ↓reduceIte, Nat.reduceEqDiff, reduceCtorEq, Nat.reduceAdd]; with_reducible exact rfl)); (focus first | assumption | exact rfl))
      | ((with_reducible apply arun_gno); (focus exact rfl); (focus (simp only [go_sem, ↓reduceIte, Nat.reduceEqDiff, reduceCtorEq, Nat.reduceAdd]; with_reducible exact rfl)); (focus first | assumption | exact rfl))
      | ((with_reducible apply arun_guard); (focus exact rfl); (focus (simp only [go_sem, ↓reduceIte, Nat.reduceEqDiff, reduceCtorEq, Nat.reduceAdd]; with_reducible exact rfl)); (focus intro hb); rotate_left; (focus intro hb); rotate_right))
    all_goals (simp only [go_sem, ↓reduceIte, Nat.reduceEqDiff, reduceCtorEq, Nat.reduceAdd])
    refine step2 (n / 65536) 16 _ (by omega) (by omega) (bl_div (n := n) (k := n / 65536) 16 (show 2 ^ 16 ≤ n from hge) rfl).symm ?_ rfl
    first | (simp [agree_cons, agree_nil, slook_cons, vInt]; done) | (simp [agree_cons, agree_nil, slook_cons, vInt]; omega) | (simp [agree_cons, agree_nil, slook_cons, vInt]; grind)
  · have hlt : n < 65536 := by simp at hc; omega
    refine awp_skip ?_
    refine step2 n 0 _ hlt (by omega) rfl ?_ rfl
    first | (simp [agree_cons, agree_nil, slook_cons, vInt]; done) | (simp [agree_cons, agree_nil, slook_cons, vInt]; omega) | (simp [agree_cons, agree_nil, slook_cons, vInt]; grind)
end Len32

def spLZ32 : List AV → Option AV
  | [.val (.int .u32 x)] => if 0 ≤ x ∧ x < 4294967296 then some (.val (.int .i64 (32 - (bl x.toNat : Int)))) else none
  | _ => none
attribute [go_sem] spLZ32
namespace LZ32
def Γ : FuncId → Abs.Spec
  | 63 => .pure spLen32
  | _ => .none
theorem ΓOK : ∀ f, SpecOK Try.prog f (Γ f) := by
  intro f
  unfold Γ
  split
  · exact ⟨⟨_, Try.func63, by decide +kernel, rfl⟩, Len32.ok⟩
  · trivial
attribute [local go_sem] Γ
theorem ok : PureOK Try.prog 57 spLZ32 := by
  refine pure_of_awp (n := 6) [2] Try.func57 rfl rfl rfl ?_
  intro M0 w0 args r h
  unfold spLZ32 at h
  split at h
  case h_2 => cases h
  rename_i x
  split at h
  case isFalse => cases h
  rename_i hx
  cases h
  have hb := bl_le (n := x.toNat) (k := 32) (by omega)
  refine ⟨by simp, ?_⟩
  refine awp_seq_k fun K hK => ?_
  refine awp_region (Θ := Θ) (Γ := Γ) [0] ΘOK ΓOK rfl ?_
  repeat' (first
    | (with_reducible refine arun_nil ?_)
    | ((with_reducible apply arun_step); (focus exact rfl); (focus (simp (disch := first | assumption | (with_reducible exact okL_limbs _) | omega) only [go_sem, ↓reduceIte, Nat.reduceEqDiff, reduceCtorEq, Nat.reduceAdd]; with_reducible exact rfl)))
    | ((with_reducible apply arun_if); (focus exact rfl); (focus (simp (disch := first | assumption | (with_reducible exact okL_limbs _) | omega) only [go_sem, ↓reduceIte, Nat.reduceEqDiff, reduceCtorEq, Nat.reduceAdd]; with_reducible exact rfl)); (focus omega))
    | ((with_reducible apply arun_ifn); (focus exact rfl); (focus (simp (disch := first | assumption | (with_reducible exact okL_limbs _) | omega) only [go_sem, ↓reduceIte, Nat.reduceEqDiff, reduceCtorEq, Nat.reduceAdd]; with_reducible exact rfl)); (focus omega))
    | ((with_reducible apply arun_gyes); (focus exact rfl); (focus (simp only [go_sem, ↓reduceIte, Nat.reduceEqDiff, reduceCtorEq, Nat.reduceAdd]; with_reducible exact rfl)); (focus first | assumption | exact rfl))
    | ((with_reducible apply arun_gno); (focus exact rfl); (focus (simp only [go_sem, ↓reduceIte, Nat.reduceEqDiff, reduceCtorEq, Nat.reduceAdd]; with_reducible exact rfl)); (focus first | assumption | exact rfl))
    | ((with_reducible apply arun_guard); (focus exact rfl); (focus (simp only [go_sem, ↓reduceIte, Nat.reduceEqDiff, reduceCtorEq, Nat.reduceAdd]; with_reducible exact rfl)); (focus intro hb); rotate_left; (focus intro hb); rotate_right))
  all_goals (simp only [go_sem, ↓reduceIte, Nat.reduceEqDiff, reduceCtorEq, Nat.reduceAdd]; refine hK _ ?_; clear hK K)
  refine awp_seq_k fun K hK => ?_
  refine awp_region (Θ := Θ) (Γ := Γ) [2] ΘOK ΓOK rfl ?_
  repeat' (first
    | (with_reducible refine arun_nil ?_)
    | ((with_reducible apply arun_step); (focus exact rfl); (focus (simp (disch := first | assumption | (with_reducible exact okL_limbs _) | omega) only [go_sem, ↓reduceIte, Nat.reduceEqDiff, reduceCtorEq, Nat.reduceAdd]; with_reducible exact rfl)))
    | ((with_reducible apply arun_if); (focus exact rfl); (focus (simp (disch := first | assumption | (with_reducible exact okL_limbs _) | omega) only [go_sem, ↓reduceIte, Nat.reduceEqDiff, reduceCtorEq, Nat.reduceAdd]; with_reducible exact rfl)); (focus omega))
    | ((with_reducible apply arun_ifn); (focus exact rfl); (focus (simp (disch := first | assumption | (with_reducible exact okL_limbs _) | omega) only [go_sem, ↓reduceIte, Nat.reduceEqDiff, reduceCtorEq, Nat.reduceAdd]; with_reducible exact rfl)); (focus omega))
    | ((with_reducible apply arun_gyes); (focus exact rfl); (focus (simp only [go_sem, ↓reduceIte, Nat.reduceEqDiff, reduceCtorEq, Nat.reduceAdd]; with_reducible exact rfl)); (focus first | assumption | exact rfl))
    | ((with_reducible apply arun_gno); (focus exact rfl); (focus (simp only [go_sem, ↓reduceIte, Nat.reduceEqDiff, reduceCtorEq, Nat.reduceAdd]; with_reducible exact rfl)); (focus first | assumption | exact rfl))
    | ((with_reducible apply arun_guard); (focus exact rfl); (focus (simp only [go_sem, ↓reduceIte, Nat.reduceEqDiff, reduceCtorEq, Nat.reduceAdd]; with_reducible exact rfl)); (focus intro hb); rotate_left; (focus intro hb); rotate_right))
  all_goals (simp only [go_sem, ↓reduceIte, Nat.reduceEqDiff, reduceCtorEq, Nat.reduceAdd]; refine hK _ ?_; clear hK K)
  refine awp_ret ?_
  simp only [go_sem, ↓reduceIte, Nat.reduceEqDiff, reduceCtorEq, Nat.reduceAdd, Res]
end LZ32
end Go.Proofs
