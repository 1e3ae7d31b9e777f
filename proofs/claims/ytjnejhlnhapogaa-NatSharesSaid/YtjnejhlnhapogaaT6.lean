/- Contracts of functions that the law reaches: what they compute. No condition. -/
import Derived.Test.YtjnejhlnhapogaaT5
set_option linter.unusedVariables false
set_option linter.unusedSimpArgs false
namespace Go.Proofs
open Go.Abs Go.NatMath
set_option linter.unusedVariables false
set_option linter.unusedSimpArgs false

/-! ### the document's Bits -/
def spBits : List AV → Option AV := sp1 0 fun L => some (.val (.int .i64 (bl (nv L) : Int)))
attribute [go_sem] spBits
namespace RBits
def Γ : FuncId → Abs.Spec
  | 26 => .pure spPlain
  | _ => .none
theorem ΓOK : ∀ f, SpecOK Try.prog f (Γ f) := by
  intro f
  unfold Γ
  split
  · exact ⟨⟨_, Try.func26, by decide +kernel, rfl⟩, RPlain.ok⟩
  · trivial
attribute [local go_sem] Γ
theorem ok : PureOK Try.prog 30 spBits := by
  refine pure_of_awp (n := 27) [2] Try.func30 rfl rfl rfl ?_
  intro M0 w0 args r h
  obtain ⟨L, rfl, hL, hLl, hr⟩ := sp1_some h
  cases hr
  clear h
  refine ⟨by simp, ?_⟩
  refine awp_seq_k fun K hK => ?_
  refine awp_region (Θ := Θ) (Γ := Γ) [0] ΘOK ΓOK rfl ?_
  repeat' (first
    | (with_reducible refine arun_nil ?_)
    | ((with_reducible apply arun_any); (focus exact rfl); (focus (simp (disch := first | assumption | (with_reducible exact okL_limbs _) | omega) only [go_sem, ↓reduceIte, Nat.reduceEqDiff, reduceCtorEq, Nat.reduceAdd]; with_reducible exact rfl)); with_reducible (first | refine okk_some ?_ | (refine okk_ite ?_ ?_; (focus omega)) | (refine okk_ifn ?_ ?_; (focus omega)))))
  all_goals (simp only [go_sem, ↓reduceIte, Nat.reduceEqDiff, reduceCtorEq, Nat.reduceAdd]; refine hK _ ?_; clear hK K)
  have hA := okL_limbs (nv L)
  have hAl := limbs_length_nv hL
  have hz := @limbs_eq_nil (nv L)
  have ht := @bl_top (nv L)
  refine awp_seq_k fun K hK => ?_
  refine awp_region (Θ := Θ) (Γ := Γ) [0] ΘOK ΓOK rfl ?_
  repeat' (first
    | (with_reducible refine arun_nil ?_)
    | ((with_reducible apply arun_any); (focus exact rfl); (focus (simp (disch := first | assumption | (with_reducible exact okL_limbs _) | omega) only [go_sem, ↓reduceIte, Nat.reduceEqDiff, reduceCtorEq, Nat.reduceAdd]; with_reducible exact rfl)); with_reducible (first | refine okk_some ?_ | (refine okk_ite ?_ ?_; (focus omega)) | (refine okk_ifn ?_ ?_; (focus omega)))))
  all_goals (simp only [go_sem, ↓reduceIte, Nat.reduceEqDiff, reduceCtorEq, Nat.reduceAdd]; refine hK _ ?_; clear hK K)
  generalize hn : nv L = n at *
  generalize limbs n = A at *
  refine awp_seq_k fun K hK => ?_
  refine awp_seq_k fun K1 hK1 => ?_
  refine awp_region (Θ := Θ) (Γ := Γ) [0, 9] ΘOK ΓOK rfl ?_
  repeat' (first
    | (with_reducible refine arun_nil ?_)
    | ((with_reducible apply arun_any); (focus exact rfl); (focus (simp (disch := first | assumption | (with_reducible exact okL_limbs _) | omega) only [go_sem, ↓reduceIte, Nat.reduceEqDiff, reduceCtorEq, Nat.reduceAdd]; with_reducible exact rfl)); with_reducible (first | refine okk_some ?_ | (refine okk_ite ?_ ?_; (focus omega)) | (refine okk_ifn ?_ ?_; (focus omega)))))
  all_goals (simp only [go_sem, ↓reduceIte, Nat.reduceEqDiff, reduceCtorEq, Nat.reduceAdd]; refine hK1 _ ?_; clear hK1 K1)
  apply awp_cond
  (focus (simp only [go_sem, ↓reduceIte, Nat.reduceEqDiff, reduceCtorEq, Nat.reduceAdd]; exact rfl))
  all_goals intro hc
  · have h0 : n = 0 := hz.1 (by simpa using hc)
    refine awp_seq_k fun K1 hK1 => ?_
    refine awp_region (Θ := Θ) (Γ := Γ) [2] ΘOK ΓOK rfl ?_
    repeat' (first
      | (with_reducible refine arun_nil ?_)
      | ((with_reducible apply arun_any); (focus exact rfl); (focus (simp (disch := first | assumption | (with_reducible exact okL_limbs _) | omega) only [go_sem, ↓reduceIte, Nat.reduceEqDiff, reduceCtorEq, Nat.reduceAdd]; with_reducible exact rfl)); with_reducible (first | refine okk_some ?_ | (refine okk_ite ?_ ?_; (focus omega)) | (refine okk_ifn ?_ ?_; (focus omega)))))
    all_goals (simp only [go_sem, ↓reduceIte, Nat.reduceEqDiff, reduceCtorEq, Nat.reduceAdd]; refine hK1 _ ?_; clear hK1 K1)
    refine awp_ret ?_
    subst h0
    simp only [go_sem, ↓reduceIte, Nat.reduceEqDiff, reduceCtorEq, Nat.reduceAdd, Res, bl_zero]
    rfl
  · have h0 : n ≠ 0 := fun e => by have := hz.2 e; simp [this] at hc
    have ht := ht h0
    have hl : 1 ≤ A.length := by
      rcases Nat.eq_zero_or_pos A.length with e | e
      · simp [e] at hc
      · exact e
    clear hc hz
    refine awp_skip ?_
    refine hK _ ?_; clear hK K
    refine awp_seq_k fun K hK => ?_
    refine awp_region (Θ := Θ) (Γ := Γ) [0, 3] ΘOK ΓOK rfl ?_
    repeat' (first
      | (with_reducible refine arun_nil ?_)
      | ((with_reducible apply arun_any); (focus exact rfl); (focus (simp (disch := first | assumption | (with_reducible exact okL_limbs _) | omega) only [go_sem, ↓reduceIte, Nat.reduceEqDiff, reduceCtorEq, Nat.reduceAdd]; with_reducible exact rfl)); with_reducible (first | refine okk_some ?_ | (refine okk_ite ?_ ?_; (focus omega)) | (refine okk_ifn ?_ ?_; (focus omega)))))
    all_goals (simp only [go_sem, ↓reduceIte, Nat.reduceEqDiff, reduceCtorEq, Nat.reduceAdd]; refine hK _ ?_; clear hK K)
    have hx := okL_get hA (A.length - 1)
    have e1 : ((A.length : Int) - 1).toNat = A.length - 1 := by omega
    generalize hxe : A.getD (A.length - 1) 0 = x at *
    obtain ⟨X, rfl⟩ := Int.eq_ofNat_of_zero_le hx.1
    simp only [Int.toNat_natCast] at ht
    refine awp_seq_k fun K hK => ?_
    refine awp_seq_k fun K1 hK1 => ?_
    refine awp_region (Θ := Θ) (Γ := Γ) [3, 4] ΘOK ΓOK rfl ?_
    repeat' (first
      | (with_reducible refine arun_nil ?_)
      | ((with_reducible apply arun_any); (focus exact rfl); (focus (simp (disch := first | assumption | (with_reducible exact okL_limbs _) | omega) only [go_sem, ↓reduceIte, Nat.reduceEqDiff, reduceCtorEq, Nat.reduceAdd, e1, hxe]; with_reducible exact rfl)); with_reducible (first | refine okk_some ?_ | (refine okk_ite ?_ ?_; (focus omega)) | (refine okk_ifn ?_ ?_; (focus omega)))))
    all_goals (simp only [go_sem, ↓reduceIte, Nat.reduceEqDiff, reduceCtorEq, Nat.reduceAdd]; refine hK1 _ ?_; clear hK1 K1)
    refine awp_block ?_
    refine awp_loop_st (ι := Nat × Nat) (fun p => [(3, vInt .i64 p.2), (4, vInt .u32 p.1)]) (fun _ => []) (fun p => p.1) (fun p => p.1 < 4294967296 ∧ p.2 + bl p.1 = bl n) (X, 32 * (A.length - 1)) ⟨by simp only; omega, by simp only; omega⟩ ?_ rfl ?_
    · simp [agree_cons, agree_nil, slook_cons, vInt]; omega
    rintro ⟨x, k⟩ ⟨h1, h2⟩
    simp only at h1 h2 ⊢
    have hkn : bl n ≤ 32 * A.length := by
      rw [ht]
      have := bl_le (n := X) (k := 32) (by omega)
      omega
    refine awp_seq_k fun K2 hK2 => ?_
    refine awp_seq_k fun K3 hK3 => ?_
    refine awp_region (Θ := Θ) (Γ := Γ) [3, 4, 21] ΘOK ΓOK rfl ?_
    repeat' (first
      | (with_reducible refine arun_nil ?_)
      | ((with_reducible apply arun_any); (focus exact rfl); (focus (simp (disch := first | assumption | (with_reducible exact okL_limbs _) | omega) only [go_sem, ↓reduceIte, Nat.reduceEqDiff, reduceCtorEq, Nat.reduceAdd]; with_reducible exact rfl)); with_reducible (first | refine okk_some ?_ | (refine okk_ite ?_ ?_; (focus omega)) | (refine okk_ifn ?_ ?_; (focus omega)))))
    all_goals (simp only [go_sem, ↓reduceIte, Nat.reduceEqDiff, reduceCtorEq, Nat.reduceAdd]; refine hK3 _ ?_; clear hK3 K3)
    apply awp_cond
    (focus (simp only [go_sem, ↓reduceIte, Nat.reduceEqDiff, reduceCtorEq, Nat.reduceAdd]; exact rfl))
    all_goals intro hc
    · have hx0 : x ≠ 0 := by simp at hc; omega
      clear hc
      rw [bl_pos hx0] at h2
      refine awp_skip ?_
      refine hK2 _ ?_; clear hK2 K2
      refine awp_seq_k fun K2 hK2 => ?_
      refine awp_block ?_
      refine awp_region (Θ := Θ) (Γ := Γ) [3, 4] ΘOK ΓOK rfl ?_
      repeat' (first
        | (with_reducible refine arun_nil ?_)
        | ((with_reducible apply arun_any); (focus exact rfl); (focus (simp (disch := first | assumption | (with_reducible exact okL_limbs _) | omega) only [go_sem, ↓reduceIte, Nat.reduceEqDiff, reduceCtorEq, Nat.reduceAdd]; with_reducible exact rfl)); with_reducible (first | refine okk_some ?_ | (refine okk_ite ?_ ?_; (focus omega)) | (refine okk_ifn ?_ ?_; (focus omega)))))
      all_goals (simp only [go_sem, ↓reduceIte, Nat.reduceEqDiff, reduceCtorEq, Nat.reduceAdd])
      refine hK2 _ ?_; clear hK2 K2
      refine awp_region (Θ := Θ) (Γ := Γ) [3, 4] ΘOK ΓOK rfl ?_
      repeat' (first
        | (with_reducible refine arun_nil ?_)
        | ((with_reducible apply arun_any); (focus exact rfl); (focus (simp (disch := first | assumption | (with_reducible exact okL_limbs _) | omega) only [go_sem, ↓reduceIte, Nat.reduceEqDiff, reduceCtorEq, Nat.reduceAdd]; with_reducible exact rfl)); with_reducible (first | refine okk_some ?_ | (refine okk_ite ?_ ?_; (focus omega)) | (refine okk_ifn ?_ ?_; (focus omega)))))
      all_goals (simp only [go_sem, ↓reduceIte, Nat.reduceEqDiff, reduceCtorEq, Nat.reduceAdd])
      refine ⟨(x / 2, k + 1), ⟨by simp only; omega, by simp only; omega⟩, ?_, by simp only; omega⟩
      first | (simp [agree_cons, agree_nil, slook_cons, vInt]; done) | (simp [agree_cons, agree_nil, slook_cons, vInt]; omega) | (simp [agree_cons, agree_nil, slook_cons, vInt]; grind)
    · have hx0 : x = 0 := by simp at hc; omega
      subst hx0
      rw [bl_zero, Nat.add_zero] at h2
      refine awp_exit ?_
      rw [if_pos rfl]
      refine hK _ ?_
      refine awp_seq_k fun K3 hK3 => ?_
      refine awp_region (Θ := Θ) (Γ := Γ) [2] ΘOK ΓOK rfl ?_
      repeat' (first
        | (with_reducible refine arun_nil ?_)
        | ((with_reducible apply arun_any); (focus exact rfl); (focus (simp (disch := first | assumption | (with_reducible exact okL_limbs _) | omega) only [go_sem, ↓reduceIte, Nat.reduceEqDiff, reduceCtorEq, Nat.reduceAdd]; with_reducible exact rfl)); with_reducible (first | refine okk_some ?_ | (refine okk_ite ?_ ?_; (focus omega)) | (refine okk_ifn ?_ ?_; (focus omega)))))
      all_goals (simp only [go_sem, ↓reduceIte, Nat.reduceEqDiff, reduceCtorEq, Nat.reduceAdd]; refine hK3 _ ?_; clear hK3 K3)
      refine awp_ret ?_
      simp only [go_sem, ↓reduceIte, Nat.reduceEqDiff, reduceCtorEq, Nat.reduceAdd, Res, h2]
end RBits

/-! ### math/bits.Len32, LeadingZeros32 -/
def blf : Nat → Nat → Nat
  | 0, _ => 0
  | k + 1, n => if n = 0 then 0 else blf k (n / 2) + 1
theorem blf_eq : ∀ (k n : Nat), n < 2 ^ k → blf k n = bl n
  | 0, n, h => by have : n = 0 := by simp at h; exact h
                  subst this; rw [bl_zero]; rfl
  | k + 1, n, h => by
    by_cases h0 : n = 0
    · subst h0; rw [bl_zero]; rfl
    · rw [bl_pos h0, blf, if_neg h0, blf_eq k (n / 2) (by rw [Nat.pow_succ] at h; omega)]
def tabB (s : ByteArray) : Bool := s.data.toList.map (·.toNat) == (List.range 256).map (blf 8)
theorem astep_tab {Γ : FuncId → Abs.Spec} {d : Nat} {t ty : TypeId} {x i : Operand} {pos : String} {af : Array Edge} {σ : St} {s : ByteArray} {k : Int} (hΘ : Θ t = .str) (hs : ev σ x = .val (.string s)) (htab : tabB s = true) (hi : ev σ i = .val (.int .u8 k)) (h0 : 0 ≤ k) (h1 : k < 256) :
    astep Θ Γ ⟨some d, .index t x i, ty, pos, af, none⟩ σ = some (σ.set (some d) (.val (.int .u8 (bl k.toNat : Int)))) := by
  have hl : s.data.toList.map (·.toNat) = (List.range 256).map (blf 8) := eq_of_beq htab
  have hsz : s.data.size = 256 := by
    have := congrArg List.length hl
    rw [List.length_map, List.length_map, List.length_range, Array.length_toList] at this
    exact this
  have hss : s.size = 256 := hsz
  have hk : k.toNat < 256 := by omega
  have hv : (s[k.toNat]'(by omega)).toNat = bl k.toNat := by
    have h2 := congrArg (fun l => l[k.toNat]?) hl
    simp only [List.getElem?_map, List.getElem?_range hk, Option.map_some, Array.getElem?_toList] at h2
    rw [Array.getElem?_eq_getElem (by omega), Option.map_some, blf_eq 8 _ (Nat.lt_of_lt_of_le hk (by decide))] at h2
    exact Option.some.inj h2
  simp only [astep, hΘ, hs, hi, intOf?]
  rw [dif_pos ⟨h0, by omega⟩, hv]
  rfl
end Go.Proofs

namespace Go.Proofs
open Go.Abs Go.NatMath
set_option linter.unusedVariables false
set_option linter.unusedSimpArgs false

def spLen32 : List AV → Option AV
  | [.val (.int .u32 x)] => if 0 ≤ x ∧ x < 4294967296 then some (.val (.int .i64 (bl x.toNat : Int))) else none
  | _ => none
attribute [go_sem] spLen32
theorem bl_div {n k : Nat} (j : Nat) (h : 2 ^ j ≤ n) (hk : n / 2 ^ j = k) : bl n = bl k + j := by
  subst hk
  exact bl_shift j (Nat.ne_of_gt (Nat.div_pos h (Nat.pow_pos (by decide))))
namespace Len32
def Γ : FuncId → Abs.Spec := fun _ => .none
theorem ΓOK : ∀ f, SpecOK Try.prog f (Γ f) := fun _ => trivial
theorem ok : PureOK Try.prog 63 spLen32 := by
  refine pure_of_awp (n := 19) [2] Try.func63 rfl rfl rfl ?_
  intro M0 w0 args r h
  unfold spLen32 at h
  split at h
  case h_2 => cases h
  rename_i x
  split at h
  case isFalse => cases h
  rename_i hx
  cases h
  obtain ⟨n, rfl⟩ := Int.eq_ofNat_of_zero_le hx.1
  refine ⟨by simp, ?_⟩
  rw [Int.toNat_natCast]
  refine awp_seq_k fun K hK => ?_
  refine awp_region (Θ := Θ) (Γ := Γ) [0, 2] ΘOK ΓOK rfl ?_
  repeat' (first
    | (with_reducible refine arun_nil ?_)
    | ((with_reducible apply arun_any); (focus exact rfl); (focus (simp (disch := first | assumption | (with_reducible exact okL_limbs _) | omega) only [go_sem, ↓reduceIte, Nat.reduceEqDiff, reduceCtorEq, Nat.reduceAdd]; with_reducible exact rfl)); with_reducible (first | refine okk_some ?_ | (refine okk_ite ?_ ?_; (focus omega)) | (refine okk_ifn ?_ ?_; (focus omega)))))
  all_goals (simp only [go_sem, ↓reduceIte, Nat.reduceEqDiff, reduceCtorEq, Nat.reduceAdd]; refine hK _ ?_; clear hK K)
  refine awp_seq_k fun K hK => ?_
  have step2 : ∀ (y k : Nat) (σ : St), y < 65536 → k ≤ 16 → bl y + k = bl n → agree [(0, vInt .u32 y), (2, vInt .i64 k)] σ.t → σ.h = hlook [] → K σ := by
    intro y k σ hy hk hb hag hh
    refine hK σ ?_
    refine awp_forget _ hag ?_
    rw [hh]
    clear hK hag hh K
    refine awp_seq_k fun K hK => ?_
    have step3 : ∀ (y k : Nat) (σ : St), y < 256 → k ≤ 24 → bl y + k = bl n → agree [(0, vInt .u32 y), (2, vInt .i64 k)] σ.t → σ.h = hlook [] → K σ := by
      intro y k σ hy hk hb hag hh
      refine hK σ ?_
      refine awp_forget _ hag ?_
      rw [hh]
      clear hK hag hh K
      have hy8 := bl_le (n := y) (k := 8) (by omega)
      have e1 : (y : Int) % 256 = (y : Int) := by omega
      refine awp_seq_k fun K hK => ?_
      refine awp_region (Θ := Θ) (Γ := Γ) [2] ΘOK ΓOK rfl ?_
      iterate 3 (with_reducible apply arun_step; (focus exact rfl); (focus (simp (disch := first | assumption | omega) only [go_sem, ↓reduceIte, Nat.reduceEqDiff, reduceCtorEq, Nat.reduceAdd]; with_reducible exact rfl)))
      refine arun_step rfl (astep_tab rfl rfl (by decide +kernel) (k := (y : Int)) (by simp only [go_sem, ↓reduceIte, Nat.reduceEqDiff, reduceCtorEq, Nat.reduceAdd, e1]) (by omega) (by omega)) ?_
      rw [Int.toNat_natCast]
      repeat' (first
        | (with_reducible refine arun_nil ?_)
        | ((with_reducible apply arun_any); (focus exact rfl); (focus (simp (disch := first | assumption | (with_reducible exact okL_limbs _) | omega) only [go_sem, ↓reduceIte, Nat.reduceEqDiff, reduceCtorEq, Nat.reduceAdd]; with_reducible exact rfl)); with_reducible (first | refine okk_some ?_ | (refine okk_ite ?_ ?_; (focus omega)) | (refine okk_ifn ?_ ?_; (focus omega)))))
      all_goals (simp only [go_sem, ↓reduceIte, Nat.reduceEqDiff, reduceCtorEq, Nat.reduceAdd]; refine hK _ ?_; clear hK K)
      refine awp_ret ?_
      have e2 : (k : Int) + (bl y : Int) = (bl n : Int) := by omega
      simp only [go_sem, ↓reduceIte, Nat.reduceEqDiff, reduceCtorEq, Nat.reduceAdd, Res, e2]
    refine awp_seq_k fun K1 hK1 => ?_
    refine awp_region (Θ := Θ) (Γ := Γ) [0, 2, 8] ΘOK ΓOK rfl ?_
    repeat' (first
      | (with_reducible refine arun_nil ?_)
      | ((with_reducible apply arun_any); (focus exact rfl); (focus (simp (disch := first | assumption | (with_reducible exact okL_limbs _) | omega) only [go_sem, ↓reduceIte, Nat.reduceEqDiff, reduceCtorEq, Nat.reduceAdd]; with_reducible exact rfl)); with_reducible (first | refine okk_some ?_ | (refine okk_ite ?_ ?_; (focus omega)) | (refine okk_ifn ?_ ?_; (focus omega)))))
    all_goals (simp only [go_sem, ↓reduceIte, Nat.reduceEqDiff, reduceCtorEq, Nat.reduceAdd]; refine hK1 _ ?_; clear hK1 K1)
    apply awp_cond
    (focus (simp only [go_sem, ↓reduceIte, Nat.reduceEqDiff, reduceCtorEq, Nat.reduceAdd]; exact rfl))
    all_goals intro hc
    · have hge : 256 ≤ y := by simp at hc; omega
      refine awp_seq_k fun K1 hK1 => ?_
      refine awp_region (Θ := Θ) (Γ := Γ) [0, 2] ΘOK ΓOK rfl ?_
      repeat' (first
        | (with_reducible refine arun_nil ?_)
        | ((with_reducible apply arun_any); (focus exact rfl); (focus (simp (disch := first | assumption | (with_reducible exact okL_limbs _) | omega) only [go_sem, ↓reduceIte, Nat.reduceEqDiff, reduceCtorEq, Nat.reduceAdd]; with_reducible exact rfl)); with_reducible (first | refine okk_some ?_ | (refine okk_ite ?_ ?_; (focus omega)) | (refine okk_ifn ?_ ?_; (focus omega)))))
      all_goals (simp only [go_sem, ↓reduceIte, Nat.reduceEqDiff, reduceCtorEq, Nat.reduceAdd]; refine hK1 _ ?_; clear hK1 K1)
      refine awp_region (Θ := Θ) (Γ := Γ) [0, 2] ΘOK ΓOK rfl ?_
      repeat' (first
        | (with_reducible refine arun_nil ?_)
        | ((with_reducible apply arun_any); (focus exact rfl); (focus (simp (disch := first | assumption | (with_reducible exact okL_limbs _) | omega) only [go_sem, ↓reduceIte, Nat.reduceEqDiff, reduceCtorEq, Nat.reduceAdd]; with_reducible exact rfl)); with_reducible (first | refine okk_some ?_ | (refine okk_ite ?_ ?_; (focus omega)) | (refine okk_ifn ?_ ?_; (focus omega)))))
      all_goals (simp only [go_sem, ↓reduceIte, Nat.reduceEqDiff, reduceCtorEq, Nat.reduceAdd])
      refine step3 (y / 256) (k + 8) _ (by omega) (by omega) (by have e := bl_div (n := y) (k := y / 256) 8 (show 2 ^ 8 ≤ y from hge) rfl; omega) ?_ rfl
      first | (simp [agree_cons, agree_nil, slook_cons, vInt]; done) | (simp [agree_cons, agree_nil, slook_cons, vInt]; omega) | (simp [agree_cons, agree_nil, slook_cons, vInt]; grind)
    · have hlt : y < 256 := by simp at hc; omega
      refine awp_skip ?_
      refine step3 y k _ hlt (by omega) hb ?_ rfl
      first | (simp [agree_cons, agree_nil, slook_cons, vInt]; done) | (simp [agree_cons, agree_nil, slook_cons, vInt]; omega) | (simp [agree_cons, agree_nil, slook_cons, vInt]; grind)
  refine awp_seq_k fun K1 hK1 => ?_
  refine awp_region (Θ := Θ) (Γ := Γ) [0, 2, 4] ΘOK ΓOK rfl ?_
  repeat' (first
    | (with_reducible refine arun_nil ?_)
    | ((with_reducible apply arun_any); (focus exact rfl); (focus (simp (disch := first | assumption | (with_reducible exact okL_limbs _) | omega) only [go_sem, ↓reduceIte, Nat.reduceEqDiff, reduceCtorEq, Nat.reduceAdd]; with_reducible exact rfl)); with_reducible (first | refine okk_some ?_ | (refine okk_ite ?_ ?_; (focus omega)) | (refine okk_ifn ?_ ?_; (focus omega)))))
  all_goals (simp only [go_sem, ↓reduceIte, Nat.reduceEqDiff, reduceCtorEq, Nat.reduceAdd]; refine hK1 _ ?_; clear hK1 K1)
  apply awp_cond
  (focus (simp only [go_sem, ↓reduceIte, Nat.reduceEqDiff, reduceCtorEq, Nat.reduceAdd]; exact rfl))
  all_goals intro hc
  · have hge : 65536 ≤ n := by simp at hc; omega
    refine awp_seq_k fun K1 hK1 => ?_
    refine awp_region (Θ := Θ) (Γ := Γ) [0, 2] ΘOK ΓOK rfl ?_
    repeat' (first
      | (with_reducible refine arun_nil ?_)
      | ((with_reducible apply arun_any); (focus exact rfl); (focus (simp (disch := first | assumption | (with_reducible exact okL_limbs _) | omega) only [go_sem, ↓reduceIte, Nat.reduceEqDiff, reduceCtorEq, Nat.reduceAdd]; with_reducible exact rfl)); with_reducible (first | refine okk_some ?_ | (refine okk_ite ?_ ?_; (focus omega)) | (refine okk_ifn ?_ ?_; (focus omega)))))
    all_goals (simp only [go_sem, ↓reduceIte, Nat.reduceEqDiff, reduceCtorEq, Nat.reduceAdd]; refine hK1 _ ?_; clear hK1 K1)
    refine awp_region (Θ := Θ) (Γ := Γ) [0, 2] ΘOK ΓOK rfl ?_
    repeat' (first
      | (with_reducible refine arun_nil ?_)
      | ((with_reducible apply arun_any); (focus exact rfl); (focus (simp (disch := first | assumption | (with_reducible exact okL_limbs _) | omega) only [go_sem, ↓reduceIte, Nat.reduceEqDiff, reduceCtorEq, Nat.reduceAdd]; with_reducible exact rfl)); with_reducible (first | refine okk_some ?_ | (refine okk_ite ?_ ?_; (focus omega)) | (refine okk_ifn ?_ ?_; (focus omega)))))
    all_goals (simp only [go_sem, ↓reduceIte, Nat.reduceEqDiff, reduceCtorEq, Nat.reduceAdd])
    refine step2 (n / 65536) 16 _ (by omega) (by omega) (bl_div (n := n) (k := n / 65536) 16 (show 2 ^ 16 ≤ n from hge) rfl).symm ?_ rfl
    first | (simp [agree_cons, agree_nil, slook_cons, vInt]; done) | (simp [agree_cons, agree_nil, slook_cons, vInt]; omega) | (simp [agree_cons, agree_nil, slook_cons, vInt]; grind)
  · have hlt : n < 65536 := by simp at hc; omega
    refine awp_skip ?_
    refine step2 n 0 _ hlt (by omega) rfl ?_ rfl
    first | (simp [agree_cons, agree_nil, slook_cons, vInt]; done) | (simp [agree_cons, agree_nil, slook_cons, vInt]; omega) | (simp [agree_cons, agree_nil, slook_cons, vInt]; grind)
end Len32

def spLZ32 : List AV → Option AV
  | [.val (.int .u32 x)] => if 0 ≤ x ∧ x < 4294967296 then some (.val (.int .i64 (32 - (bl x.toNat : Int)))) else none
  | _ => none
attribute [go_sem] spLZ32
namespace LZ32
def Γ : FuncId → Abs.Spec
  | 63 => .pure spLen32
  | _ => .none
theorem ΓOK : ∀ f, SpecOK Try.prog f (Γ f) := by
  intro f
  unfold Γ
  split
  · exact ⟨⟨_, Try.func63, by decide +kernel, rfl⟩, Len32.ok⟩
  · trivial
attribute [local go_sem] Γ
theorem ok : PureOK Try.prog 57 spLZ32 := by
  refine pure_of_awp (n := 6) [2] Try.func57 rfl rfl rfl ?_
  intro M0 w0 args r h
  unfold spLZ32 at h
  split at h
  case h_2 => cases h
  rename_i x
  split at h
  case isFalse => cases h
  rename_i hx
  cases h
  have hb := bl_le (n := x.toNat) (k := 32) (by omega)
  refine ⟨by simp, ?_⟩
  refine awp_seq_k fun K hK => ?_
  refine awp_region (Θ := Θ) (Γ := Γ) [0] ΘOK ΓOK rfl ?_
  repeat' (first
    | (with_reducible refine arun_nil ?_)
    | ((with_reducible apply arun_any); (focus exact rfl); (focus (simp (disch := first | assumption | (with_reducible exact okL_limbs _) | omega) only [go_sem, ↓reduceIte, Nat.reduceEqDiff, reduceCtorEq, Nat.reduceAdd]; with_reducible exact rfl)); with_reducible (first | refine okk_some ?_ | (refine okk_ite ?_ ?_; (focus omega)) | (refine okk_ifn ?_ ?_; (focus omega)))))
  all_goals (simp only [go_sem, ↓reduceIte, Nat.reduceEqDiff, reduceCtorEq, Nat.reduceAdd]; refine hK _ ?_; clear hK K)
  refine awp_seq_k fun K hK => ?_
  refine awp_region (Θ := Θ) (Γ := Γ) [2] ΘOK ΓOK rfl ?_
  repeat' (first
    | (with_reducible refine arun_nil ?_)
    | ((with_reducible apply arun_any); (focus exact rfl); (focus (simp (disch := first | assumption | (with_reducible exact okL_limbs _) | omega) only [go_sem, ↓reduceIte, Nat.reduceEqDiff, reduceCtorEq, Nat.reduceAdd]; with_reducible exact rfl)); with_reducible (first | refine okk_some ?_ | (refine okk_ite ?_ ?_; (focus omega)) | (refine okk_ifn ?_ ?_; (focus omega)))))
  all_goals (simp only [go_sem, ↓reduceIte, Nat.reduceEqDiff, reduceCtorEq, Nat.reduceAdd]; refine hK _ ?_; clear hK K)
  refine awp_ret ?_
  simp only [go_sem, ↓reduceIte, Nat.reduceEqDiff, reduceCtorEq, Nat.reduceAdd, Res]
end LZ32
end Go.Proofs

namespace Go.Proofs
open Go.Abs Go.NatMath
set_option linter.unusedVariables false
set_option linter.unusedSimpArgs false

/-! ### nat.Bits -/
namespace Bits
def Γ : FuncId → Abs.Spec
  | 47 => .pure spTrim
  | 57 => .pure spLZ32
  | _ => .none
theorem ΓOK : ∀ f, SpecOK Try.prog f (Γ f) := by
  intro f
  unfold Γ
  split
  · exact ⟨⟨_, Try.func47, by decide +kernel, rfl⟩, Trim.ok⟩
  · exact ⟨⟨_, Try.func57, by decide +kernel, rfl⟩, LZ32.ok⟩
  · trivial
attribute [local go_sem] Γ
theorem ok : PureOK Try.prog 29 spBits := by
  refine pure_of_awp (n := 19) [2] Try.func29 rfl rfl rfl ?_
  intro M0 w0 args r h
  obtain ⟨L, rfl, hL, hLl, hr⟩ := sp1_some h
  cases hr
  clear h
  refine ⟨by simp, ?_⟩
  refine awp_seq_k fun K hK => ?_
  refine awp_region (Θ := Θ) (Γ := Γ) [0] ΘOK ΓOK rfl ?_
  repeat' (first
    | (with_reducible refine arun_nil ?_)
    | ((with_reducible apply arun_any); (focus exact rfl); (focus (simp (disch := first | assumption | (with_reducible exact okL_limbs _) | omega) only [go_sem, ↓reduceIte, Nat.reduceEqDiff, reduceCtorEq, Nat.reduceAdd]; with_reducible exact rfl)); with_reducible (first | refine okk_some ?_ | (refine okk_ite ?_ ?_; (focus omega)) | (refine okk_ifn ?_ ?_; (focus omega)))))
  all_goals (simp only [go_sem, ↓reduceIte, Nat.reduceEqDiff, reduceCtorEq, Nat.reduceAdd]; refine hK _ ?_; clear hK K)
  have hA := okL_limbs (nv L)
  have hAl := limbs_length_nv hL
  have hz := @limbs_eq_nil (nv L)
  have ht := @bl_top (nv L)
  refine awp_seq_k fun K hK => ?_
  refine awp_region (Θ := Θ) (Γ := Γ) [0] ΘOK ΓOK rfl ?_
  repeat' (first
    | (with_reducible refine arun_nil ?_)
    | ((with_reducible apply arun_any); (focus exact rfl); (focus (simp (disch := first | assumption | (with_reducible exact okL_limbs _) | omega) only [go_sem, ↓reduceIte, Nat.reduceEqDiff, reduceCtorEq, Nat.reduceAdd]; with_reducible exact rfl)); with_reducible (first | refine okk_some ?_ | (refine okk_ite ?_ ?_; (focus omega)) | (refine okk_ifn ?_ ?_; (focus omega)))))
  all_goals (simp only [go_sem, ↓reduceIte, Nat.reduceEqDiff, reduceCtorEq, Nat.reduceAdd]; refine hK _ ?_; clear hK K)
  generalize hn : nv L = n at *
  generalize limbs n = A at *
  refine awp_seq_k fun K hK => ?_
  refine awp_seq_k fun K1 hK1 => ?_
  refine awp_region (Θ := Θ) (Γ := Γ) [0, 7] ΘOK ΓOK rfl ?_
  repeat' (first
    | (with_reducible refine arun_nil ?_)
    | ((with_reducible apply arun_any); (focus exact rfl); (focus (simp (disch := first | assumption | (with_reducible exact okL_limbs _) | omega) only [go_sem, ↓reduceIte, Nat.reduceEqDiff, reduceCtorEq, Nat.reduceAdd]; with_reducible exact rfl)); with_reducible (first | refine okk_some ?_ | (refine okk_ite ?_ ?_; (focus omega)) | (refine okk_ifn ?_ ?_; (focus omega)))))
  all_goals (simp only [go_sem, ↓reduceIte, Nat.reduceEqDiff, reduceCtorEq, Nat.reduceAdd]; refine hK1 _ ?_; clear hK1 K1)
  apply awp_cond
  (focus (simp only [go_sem, ↓reduceIte, Nat.reduceEqDiff, reduceCtorEq, Nat.reduceAdd]; exact rfl))
  all_goals intro hc
  · have h0 : n = 0 := hz.1 (by simpa using hc)
    refine awp_seq_k fun K1 hK1 => ?_
    refine awp_region (Θ := Θ) (Γ := Γ) [2] ΘOK ΓOK rfl ?_
    repeat' (first
      | (with_reducible refine arun_nil ?_)
      | ((with_reducible apply arun_any); (focus exact rfl); (focus (simp (disch := first | assumption | (with_reducible exact okL_limbs _) | omega) only [go_sem, ↓reduceIte, Nat.reduceEqDiff, reduceCtorEq, Nat.reduceAdd]; with_reducible exact rfl)); with_reducible (first | refine okk_some ?_ | (refine okk_ite ?_ ?_; (focus omega)) | (refine okk_ifn ?_ ?_; (focus omega)))))
    all_goals (simp only [go_sem, ↓reduceIte, Nat.reduceEqDiff, reduceCtorEq, Nat.reduceAdd]; refine hK1 _ ?_; clear hK1 K1)
    refine awp_ret ?_
    subst h0
    simp only [go_sem, ↓reduceIte, Nat.reduceEqDiff, reduceCtorEq, Nat.reduceAdd, Res, bl_zero]
    rfl
  · have h0 : n ≠ 0 := fun e => by have := hz.2 e; simp [this] at hc
    have ht := ht h0
    have hl : 1 ≤ A.length := by
      rcases Nat.eq_zero_or_pos A.length with e | e
      · simp [e] at hc
      · exact e
    clear hc hz
    refine awp_skip ?_
    refine hK _ ?_; clear hK K
    have hx := okL_get hA (A.length - 1)
    have e1 : ((A.length : Int) - 1).toNat = A.length - 1 := by omega
    generalize hxe : A.getD (A.length - 1) 0 = x at *
    have hb := bl_le (n := x.toNat) (k := 32) (by omega)
    have e2 : 32 * (A.length : Int) - (32 - (bl x.toNat : Int)) = (bl n : Int) := by omega
    refine awp_seq_k fun K hK => ?_
    refine awp_region (Θ := Θ) (Γ := Γ) [2] ΘOK ΓOK rfl ?_
    repeat' (first
      | (with_reducible refine arun_nil ?_)
      | ((with_reducible apply arun_any); (focus exact rfl); (focus (simp (disch := first | assumption | (with_reducible exact okL_limbs _) | omega) only [go_sem, ↓reduceIte, Nat.reduceEqDiff, reduceCtorEq, Nat.reduceAdd, e1, hxe, e2]; with_reducible exact rfl)); with_reducible (first | refine okk_some ?_ | (refine okk_ite ?_ ?_; (focus omega)) | (refine okk_ifn ?_ ?_; (focus omega)))))
    all_goals (simp only [go_sem, ↓reduceIte, Nat.reduceEqDiff, reduceCtorEq, Nat.reduceAdd]; refine hK _ ?_; clear hK K)
    refine awp_ret ?_
    simp only [go_sem, ↓reduceIte, Nat.reduceEqDiff, reduceCtorEq, Nat.reduceAdd, e1, hxe, e2, Res]
end Bits

/-! ### NatPlains -/
namespace NatPlains
def Γ : FuncId → Abs.Spec
  | 21 => .pure spAwake
  | 25 => .pure spPlain
  | 26 => .pure spPlain
  | 27 => .pure spCmp
  | 28 => .pure spCmp
  | 29 => .pure spBits
  | 30 => .pure spBits
  | 22 => .pure spSame
  | _ => .none
theorem ΓOK : ∀ f, SpecOK Try.prog f (Γ f) := by
  intro f
  unfold Γ
  split
  · exact ⟨⟨_, Try.func21, by decide +kernel, rfl⟩, Awake.ok⟩
  · exact ⟨⟨_, Try.func25, by decide +kernel, rfl⟩, Plain.ok⟩
  · exact ⟨⟨_, Try.func26, by decide +kernel, rfl⟩, RPlain.ok⟩
  · exact ⟨⟨_, Try.func27, by decide +kernel, rfl⟩, Cmp.ok⟩
  · exact ⟨⟨_, Try.func28, by decide +kernel, rfl⟩, RCmp.ok⟩
  · exact ⟨⟨_, Try.func29, by decide +kernel, rfl⟩, Bits.ok⟩
  · exact ⟨⟨_, Try.func30, by decide +kernel, rfl⟩, RBits.ok⟩
  · exact ⟨⟨_, Try.func22, by decide +kernel, rfl⟩, Same22.ok⟩
  · trivial
attribute [local go_sem] Γ
theorem ok : PureOK Try.prog 5 spTrue2 := by
  refine pure_of_awp (n := 29) [4] Try.func5 rfl rfl rfl ?_
  intro M0 w0 args r h
  obtain ⟨L, M, rfl, hL, hLl, hM, hMl, hr⟩ := sp2_some h
  cases hr
  clear h
  refine ⟨by simp, ?_⟩
  have hAl := limbs_length_nv hL
  refine awp_seq_k fun K hK => ?_
  refine awp_region (Θ := Θ) (Γ := Γ) [0, 1] ΘOK ΓOK rfl ?_
  repeat' (first
    | (with_reducible refine arun_nil ?_)
    | ((with_reducible apply arun_any); (focus exact rfl); (focus (simp (disch := first | assumption | (with_reducible exact okL_limbs _) | omega) only [go_sem, ↓reduceIte, Nat.reduceEqDiff, reduceCtorEq, Nat.reduceAdd]; with_reducible exact rfl)); with_reducible (first | refine okk_some ?_ | (refine okk_ite ?_ ?_; (focus omega)) | (refine okk_ifn ?_ ?_; (focus omega)))))
  all_goals (simp only [go_sem, ↓reduceIte, Nat.reduceEqDiff, reduceCtorEq, Nat.reduceAdd]; refine hK _ ?_; clear hK K)
  refine awp_seq_k fun K hK => ?_
  refine awp_region (Θ := Θ) (Γ := Γ) [4] ΘOK ΓOK rfl ?_
  repeat' (first
    | (with_reducible refine arun_nil ?_)
    | ((with_reducible apply arun_any); (focus exact rfl); (focus (simp (disch := first | assumption | (with_reducible exact okL_limbs _) | omega) only [go_sem, ↓reduceIte, Nat.reduceEqDiff, reduceCtorEq, Nat.reduceAdd]; with_reducible exact rfl)); with_reducible (first | refine okk_some ?_ | (refine okk_ite ?_ ?_; (focus omega)) | (refine okk_ifn ?_ ?_; (focus omega))))
    | ((with_reducible apply arun_gyes); (focus exact rfl); (focus (simp only [go_sem, ↓reduceIte, Nat.reduceEqDiff, reduceCtorEq, Nat.reduceAdd]; with_reducible exact rfl)); (focus first | assumption | exact rfl))
    | ((with_reducible apply arun_gundef); (focus exact rfl); (focus (simp only [go_sem, ↓reduceIte, Nat.reduceEqDiff, reduceCtorEq, Nat.reduceAdd]; done)))
    | ((with_reducible apply arun_gno); (focus exact rfl); (focus (simp only [go_sem, ↓reduceIte, Nat.reduceEqDiff, reduceCtorEq, Nat.reduceAdd]; with_reducible exact rfl)); (focus first | assumption | exact rfl))
    | ((with_reducible apply arun_guard); (focus exact rfl); (focus (simp only [go_sem, ↓reduceIte, Nat.reduceEqDiff, reduceCtorEq, Nat.reduceAdd]; with_reducible exact rfl)); (focus intro hb); rotate_left; (focus intro hb); rotate_right))
  all_goals (simp only [go_sem, ↓reduceIte, Nat.reduceEqDiff, reduceCtorEq, Nat.reduceAdd]; refine hK _ ?_; clear hK K)
  refine awp_ret ?_
  simp only [go_sem, ↓reduceIte, Nat.reduceEqDiff, reduceCtorEq, Nat.reduceAdd, Res]
end NatPlains
end Go.Proofs

namespace Go.Proofs
open Go.Abs Go.NatMath
set_option linter.unusedVariables false
set_option linter.unusedSimpArgs false

/-! ### Digits, one by one -/
def digits (n : Nat) : List Int := if n = 0 then [] else dig (n % 10) :: digits (n / 10)
termination_by n
decreasing_by exact Nat.div_lt_self (by omega) (by decide)
theorem digits_zero : digits 0 = [] := by unfold digits; simp
theorem digits_pos {n : Nat} (h : n ≠ 0) : digits n = dig (n % 10) :: digits (n / 10) := by rw [digits]; simp [h]
theorem digits_low : ∀ (k r q : Nat), r < 10 ^ k → digits (r + 10 ^ k * q) = lowDigits k r (decide (q ≠ 0)) ++ digits q
  | 0, r, q, h => by
    have : r = 0 := by simp at h; exact h
    subst this
    simp [lowDigits]
  | k + 1, r, q, h => by
    have e10 : 10 ^ (k + 1) = 10 ^ k * 10 := Nat.pow_succ _ _
    rw [e10] at h
    by_cases h0 : r = 0 ∧ q = 0
    · obtain ⟨rfl, rfl⟩ := h0
      simp [lowDigits, digits_zero]
    · have hne : r + 10 ^ (k + 1) * q ≠ 0 := by
        intro e
        apply h0
        have h1 : 10 ^ (k + 1) * q = 0 := by omega
        exact ⟨by omega, (Nat.mul_eq_zero.1 h1).resolve_left (Nat.ne_of_gt (Nat.pow_pos (by decide)))⟩
      have e1 : 10 ^ (k + 1) * q = 10 * (10 ^ k * q) := by rw [e10, Nat.mul_comm (10 ^ k) 10, Nat.mul_assoc]
      have e2 : (r + 10 ^ (k + 1) * q) % 10 = r % 10 := by rw [e1]; omega
      have e3 : (r + 10 ^ (k + 1) * q) / 10 = r / 10 + 10 ^ k * q := by rw [e1]; omega
      rw [digits_pos hne, e2, e3, digits_low k (r / 10) q (by omega), lowDigits, if_neg]
      · rfl
      · simp; omega
theorem revText_digits (n : Nat) : revText n = digits n := by
  induction n using Nat.strongRecOn with
  | _ n ih =>
    by_cases h0 : n = 0
    · subst h0; rw [revText, digits_zero]; simp
    · rw [revText, if_neg h0, ih _ (Nat.div_lt_self (by omega) (by decide))]
      have := digits_low 9 (n % 1000000000) (n / 1000000000) (by omega)
      rw [← this]
      congr 1
      have e : 10 ^ 9 = 1000000000 := rfl
      omega
def revR (n : Nat) : List Int := dig (n % 10) :: digits (n / 10)
theorem textOf_revR (n : Nat) : textOf n = (revR n).reverse := by
  unfold textOf revR
  by_cases h0 : n = 0
  · subst h0; simp [digits_zero, dig]
  · rw [if_neg h0, revText_digits, digits_pos h0]

/-! ### the document's tenth -/
def spTenth : List AV → Option AV := sp1 0 fun L => some (.tup [U (nv L / 10), .val (.int .i64 ((nv L % 10 : Nat) : Int))])
attribute [go_sem] spTenth
namespace Tenth
attribute [local go_sem] fRPlain
def Γ : FuncId → Abs.Spec
  | 26 => .owned (spOwn 48 .u32 fRPlain)
  | _ => .none
theorem ΓOK : ∀ f, SpecOK Try.prog f (Γ f) := by
  intro f
  unfold Γ
  split
  · exact ⟨⟨_, Try.func26, by decide +kernel, rfl⟩, RPlain.owned⟩
  · trivial
attribute [local go_sem] Γ
theorem ok : PureOK Try.prog 56 spTenth := by
  refine pure_of_awp (n := 37) [2, 3] Try.func56 rfl rfl rfl ?_
  intro M0 w0 args r h
  obtain ⟨L, rfl, hL, hLl, hr⟩ := sp1_some h
  cases hr
  clear h
  refine ⟨by simp, ?_⟩
  refine awp_seq_k fun K hK => ?_
  refine awp_region (Θ := Θ) (Γ := Γ) [0] ΘOK ΓOK rfl ?_
  repeat' (first
    | (with_reducible refine arun_nil ?_)
    | ((with_reducible apply arun_any); (focus exact rfl); (focus (simp (disch := first | assumption | (with_reducible exact okL_limbs _) | omega) only [go_sem, ↓reduceIte, Nat.reduceEqDiff, reduceCtorEq, Nat.reduceAdd]; with_reducible exact rfl)); with_reducible (first | refine okk_some ?_ | (refine okk_ite ?_ ?_; (focus omega)) | (refine okk_ifn ?_ ?_; (focus omega)))))
  all_goals (simp only [go_sem, ↓reduceIte, Nat.reduceEqDiff, reduceCtorEq, Nat.reduceAdd]; refine hK _ ?_; clear hK K)
  have hA := okL_limbs (nv L)
  have hAl := limbs_length_nv hL
  have hAv := nv_limbs (nv L)
  refine awp_seq_k fun K hK => ?_
  refine awp_region (Θ := Θ) (Γ := Γ) [4] ΘOK ΓOK rfl ?_
  repeat' (first
    | (with_reducible refine arun_nil ?_)
    | ((with_reducible apply arun_any); (focus exact rfl); (focus (simp (disch := first | assumption | (with_reducible exact okL_limbs _) | omega) only [go_sem, ↓reduceIte, Nat.reduceEqDiff, reduceCtorEq, Nat.reduceAdd]; with_reducible exact rfl)); with_reducible (first | refine okk_some ?_ | (refine okk_ite ?_ ?_; (focus omega)) | (refine okk_ifn ?_ ?_; (focus omega)))))
  all_goals (simp only [go_sem, ↓reduceIte, Nat.reduceEqDiff, reduceCtorEq, Nat.reduceAdd]; refine hK _ ?_; clear hK K)
  generalize hn : nv L = N at *
  generalize limbs N = A at *
  refine awp_seq_k fun K hK => ?_
  refine awp_region (Θ := Θ) (Γ := Γ) [4, 5] ΘOK ΓOK rfl ?_
  repeat' (first
    | (with_reducible refine arun_nil ?_)
    | ((with_reducible apply arun_any); (focus exact rfl); (focus (simp (disch := first | assumption | (with_reducible exact okL_limbs _) | omega) only [go_sem, ↓reduceIte, Nat.reduceEqDiff, reduceCtorEq, Nat.reduceAdd]; with_reducible exact rfl)); with_reducible (first | refine okk_some ?_ | (refine okk_ite ?_ ?_; (focus omega)) | (refine okk_ifn ?_ ?_; (focus omega)))))
  all_goals (simp only [go_sem, ↓reduceIte, Nat.reduceEqDiff, reduceCtorEq, Nat.reduceAdd]; refine hK _ ?_; clear hK K)
  refine awp_seq_k fun K hK => ?_
  refine awp_seq_k fun K1 hK1 => ?_
  refine awp_region (Θ := Θ) (Γ := Γ) [4, 5, 6] ΘOK ΓOK rfl ?_
  repeat' (first
    | (with_reducible refine arun_nil ?_)
    | ((with_reducible apply arun_any); (focus exact rfl); (focus (simp (disch := first | assumption | (with_reducible exact okL_limbs _) | omega) only [go_sem, ↓reduceIte, Nat.reduceEqDiff, reduceCtorEq, Nat.reduceAdd]; with_reducible exact rfl)); with_reducible (first | refine okk_some ?_ | (refine okk_ite ?_ ?_; (focus omega)) | (refine okk_ifn ?_ ?_; (focus omega)))))
  all_goals (simp only [go_sem, ↓reduceIte, Nat.reduceEqDiff, reduceCtorEq, Nat.reduceAdd]; refine hK1 _ ?_; clear hK1 K1)
  refine awp_block ?_
  refine awp_loop_st (ι := Nat × List Int × Int) (fun p => [(4, .own 9), (5, vInt .u64 p.2.2), (6, vInt .i64 ((p.1 : Int) - 1))]) (fun p => [(9, ⟨48, 1, ints .u32 p.2.1, none⟩)]) (fun p => p.1)
    (fun p => p.1 ≤ A.length ∧ okL p.2.1 ∧ p.2.1.length = A.length ∧ 0 ≤ p.2.2 ∧ p.2.2 < 10 ∧ iv (A.drop p.1) = iv (p.2.1.drop p.1) * 10 + p.2.2 ∧ ∀ j, j < p.1 → p.2.1.getD j 0 = A.getD j 0) (A.length, A, 0)
    ⟨Nat.le_refl _, hA, rfl, by simp, by simp, by simp [iv_nil], fun _ _ => rfl⟩ (by simp [agree_cons, agree_nil, slook_cons, vInt]) rfl ?_
  rintro ⟨n, Q, rest⟩ ⟨h1, h2, h3, h4, h5, h6, h7⟩
  simp only at h1 h2 h3 h4 h5 h6 h7 ⊢
  refine awp_seq_k fun K2 hK2 => ?_
  refine awp_seq_k fun K3 hK3 => ?_
  refine awp_region (Θ := Θ) (Γ := Γ) [4, 5, 6, 14] ΘOK ΓOK rfl ?_
  repeat' (first
    | (with_reducible refine arun_nil ?_)
    | ((with_reducible apply arun_any); (focus exact rfl); (focus (simp (disch := first | assumption | (with_reducible exact okL_limbs _) | omega) only [go_sem, ↓reduceIte, Nat.reduceEqDiff, reduceCtorEq, Nat.reduceAdd]; with_reducible exact rfl)); with_reducible (first | refine okk_some ?_ | (refine okk_ite ?_ ?_; (focus omega)) | (refine okk_ifn ?_ ?_; (focus omega)))))
  all_goals (simp only [go_sem, ↓reduceIte, Nat.reduceEqDiff, reduceCtorEq, Nat.reduceAdd]; refine hK3 _ ?_; clear hK3 K3)
  apply awp_cond
  (focus (simp only [go_sem, ↓reduceIte, Nat.reduceEqDiff, reduceCtorEq, Nat.reduceAdd]; exact rfl))
  all_goals intro hc
  · have hn1 : 1 ≤ n := by simp at hc; omega
    clear hc
    refine awp_skip ?_
    refine hK2 _ ?_; clear hK2 K2
    obtain ⟨m, rfl⟩ : ∃ m, n = m + 1 := ⟨n - 1, by omega⟩
    rw [show ((m + 1 : Nat) : Int) - 1 = (m : Int) by omega]
    have hx := okL_get hA m
    have hs := short_step hA h2 (b := 10) (rest := rest) (n := m) h1 h3 (by decide) h4 h5 (by decide) h6
    have hQ := h7 m (by omega)
    generalize hxe : A.getD m 0 = x at *
    refine awp_seq_k fun K2 hK2 => ?_
    refine awp_block ?_
    refine awp_seq_k fun K3 hK3 => ?_
    refine awp_region (Θ := Θ) (Γ := Γ) [4, 5, 6, 7] ΘOK ΓOK rfl ?_
    repeat' (first
      | (with_reducible refine arun_nil ?_)
      | ((with_reducible apply arun_any); (focus exact rfl); (focus (simp (disch := first | assumption | (with_reducible exact okL_limbs _) | omega) only [go_sem, ↓reduceIte, Nat.reduceEqDiff, reduceCtorEq, Nat.reduceAdd, hQ]; with_reducible exact rfl)); with_reducible (first | refine okk_some ?_ | (refine okk_ite ?_ ?_; (focus omega)) | (refine okk_ifn ?_ ?_; (focus omega)))))
    all_goals (simp only [go_sem, ↓reduceIte, Nat.reduceEqDiff, reduceCtorEq, Nat.reduceAdd]; refine hK3 _ ?_; clear hK3 K3)
    have hq0 : 0 ≤ (rest * 4294967296 + x) / 10 := by omega
    have hq1 : (rest * 4294967296 + x) / 10 < 4294967296 := by omega
    have eq : (rest * 4294967296 + x) / 10 % 4294967296 = (rest * 4294967296 + x) / 10 := Int.emod_eq_of_lt hq0 hq1
    refine awp_seq_k fun K3 hK3 => ?_
    refine awp_region (Θ := Θ) (Γ := Γ) [4, 5, 6, 7] ΘOK ΓOK rfl ?_
    repeat' (first
      | (with_reducible refine arun_nil ?_)
      | ((with_reducible apply arun_any); (focus exact rfl); (focus (simp (disch := first | assumption | (with_reducible exact okL_limbs _) | omega) only [go_sem, ↓reduceIte, Nat.reduceEqDiff, reduceCtorEq, Nat.reduceAdd]; with_reducible exact rfl)); with_reducible (first | refine okk_some ?_ | (refine okk_ite ?_ ?_; (focus omega)) | (refine okk_ifn ?_ ?_; (focus omega)))))
    all_goals (simp only [go_sem, ↓reduceIte, Nat.reduceEqDiff, reduceCtorEq, Nat.reduceAdd]; refine hK3 _ ?_; clear hK3 K3)
    refine awp_region (Θ := Θ) (Γ := Γ) [4, 5, 6] ΘOK ΓOK rfl ?_
    repeat' (first
      | (with_reducible refine arun_nil ?_)
      | ((with_reducible apply arun_any); (focus exact rfl); (focus (simp (disch := first | assumption | (with_reducible exact okL_limbs _) | omega) only [go_sem, ↓reduceIte, Nat.reduceEqDiff, reduceCtorEq, Nat.reduceAdd]; with_reducible exact rfl)); with_reducible (first | refine okk_some ?_ | (refine okk_ite ?_ ?_; (focus omega)) | (refine okk_ifn ?_ ?_; (focus omega)))))
    all_goals (simp only [go_sem, ↓reduceIte, Nat.reduceEqDiff, reduceCtorEq, Nat.reduceAdd])
    refine hK2 _ ?_; clear hK2 K2
    refine awp_region (Θ := Θ) (Γ := Γ) [4, 5, 6] ΘOK ΓOK rfl ?_
    repeat' (first
      | (with_reducible refine arun_nil ?_)
      | ((with_reducible apply arun_any); (focus exact rfl); (focus (simp (disch := first | assumption | (with_reducible exact okL_limbs _) | omega) only [go_sem, ↓reduceIte, Nat.reduceEqDiff, reduceCtorEq, Nat.reduceAdd]; with_reducible exact rfl)); with_reducible (first | refine okk_some ?_ | (refine okk_ite ?_ ?_; (focus omega)) | (refine okk_ifn ?_ ?_; (focus omega)))))
    all_goals (simp only [go_sem, ↓reduceIte, Nat.reduceEqDiff, reduceCtorEq, Nat.reduceAdd])
    rw [eq]
    refine ⟨(m, Q.set m ((rest * 4294967296 + x) / 10), (rest * 4294967296 + x) % 10), ⟨by simp only; omega, okL_set h2 _ ⟨hq0, hq1⟩, by simpa using h3, by simp only; omega, by simp only; omega, hs, fun j hj => ?_⟩, ?_, rfl, by simp only; omega⟩
    · simp only at hj ⊢
      rw [getD_set, if_neg (by omega)]
      exact h7 j (by omega)
    ·
      first | (simp [agree_cons, agree_nil, slook_cons, vInt]; done) | (simp [agree_cons, agree_nil, slook_cons, vInt]; omega) | (simp [agree_cons, agree_nil, slook_cons, vInt]; grind)
  · have hn0 : n = 0 := by simp at hc; omega
    clear hc
    subst hn0
    refine awp_exit ?_
    rw [if_pos rfl]
    refine hK _ ?_
    clear hK hK2 K K2
    have h8 : (N : Int) = (nv Q : Int) * 10 + rest := by
      have := h6
      rw [List.drop_zero, List.drop_zero] at this
      unfold iv at this
      rw [hAv] at this
      exact this
    have hq : nv Q = N / 10 := by omega
    have hr : rest = ((N % 10 : Nat) : Int) := by omega
    refine awp_freeze [9] ?_
    refine awp_forget (L := [(4, .lst (ints .u32 Q)), (5, vInt .u64 rest)]) (by simp [agree_cons, agree_nil, slook_cons, refId, frz, hlook, vInt]) ?_
    rw [show (eraseAll [9] (hlook [(9, (⟨48, 1, ints .u32 Q, none⟩ : Buf))])) = hlook [] from by funext i; simp [eraseAll, hlook]]
    subst hr
    refine awp_seq_k fun K hK => ?_
    refine awp_region (Θ := Θ) (Γ := Γ) [2, 3] ΘOK ΓOK rfl ?_
    repeat' (first
      | (with_reducible refine arun_nil ?_)
      | ((with_reducible apply arun_any); (focus exact rfl); (focus (simp (disch := first | assumption | (with_reducible exact okL_limbs _) | omega) only [go_sem, ↓reduceIte, Nat.reduceEqDiff, reduceCtorEq, Nat.reduceAdd]; with_reducible exact rfl)); with_reducible (first | refine okk_some ?_ | (refine okk_ite ?_ ?_; (focus omega)) | (refine okk_ifn ?_ ?_; (focus omega)))))
    all_goals (simp only [go_sem, ↓reduceIte, Nat.reduceEqDiff, reduceCtorEq, Nat.reduceAdd]; refine hK _ ?_; clear hK K)
    refine awp_ret ?_
    simp only [go_sem, ↓reduceIte, Nat.reduceEqDiff, reduceCtorEq, Nat.reduceAdd, Res, hq]
end Tenth
end Go.Proofs

namespace Go.Proofs
open Go.Abs Go.NatMath
set_option linter.unusedVariables false
set_option linter.unusedSimpArgs false

/-! ### the document's Text -/
theorem digits_length {k n : Nat} (h : n < 1000000000 ^ k) : (digits n).length ≤ 9 * k := by rw [← revText_digits]; exact revText_length h
namespace RText
def Γ : FuncId → Abs.Spec
  | 56 => .pure spTenth
  | _ => .none
theorem ΓOK : ∀ f, SpecOK Try.prog f (Γ f) := by
  intro f
  unfold Γ
  split
  · exact ⟨⟨_, Try.func56, by decide +kernel, rfl⟩, Tenth.ok⟩
  · trivial
attribute [local go_sem] Γ
theorem ok : PureOK Try.prog 24 spText := by
  refine pure_of_awp (n := 49) [2] Try.func24 rfl rfl rfl ?_
  intro M0 w0 args r h
  obtain ⟨L, rfl, hL, hLl, rfl⟩ := spText_some h
  clear h
  refine ⟨by simp, ?_⟩
  have hLl2 : L.length ≤ 35184372088831 := by omega
  refine awp_seq_k fun K0 hK0 => ?_
  refine awp_region (Θ := Θ) (Γ := Γ) [0] ΘOK ΓOK rfl ?_
  repeat' (first
    | (with_reducible refine arun_nil ?_)
    | ((with_reducible apply arun_any); (focus exact rfl); (focus (simp (disch := first | assumption | (with_reducible exact okL_limbs _) | omega) only [go_sem, ↓reduceIte, Nat.reduceEqDiff, reduceCtorEq, Nat.reduceAdd]; with_reducible exact rfl)); with_reducible (first | refine okk_some ?_ | (refine okk_ite ?_ ?_; (focus omega)) | (refine okk_ifn ?_ ?_; (focus omega)))))
  all_goals (simp only [go_sem, ↓reduceIte, Nat.reduceEqDiff, reduceCtorEq, Nat.reduceAdd]; refine hK0 _ ?_; clear hK0 K0)
  refine awp_seq_k fun K0 hK0 => ?_
  refine awp_region (Θ := Θ) (Γ := Γ) [3, 4] ΘOK ΓOK rfl ?_
  repeat' (first
    | (with_reducible refine arun_nil ?_)
    | ((with_reducible apply arun_any); (focus exact rfl); (focus (simp (disch := first | assumption | (with_reducible exact okL_limbs _) | omega) only [go_sem, ↓reduceIte, Nat.reduceEqDiff, reduceCtorEq, Nat.reduceAdd]; with_reducible exact rfl)); with_reducible (first | refine okk_some ?_ | (refine okk_ite ?_ ?_; (focus omega)) | (refine okk_ifn ?_ ?_; (focus omega)))))
  all_goals (simp only [go_sem, ↓reduceIte, Nat.reduceEqDiff, reduceCtorEq, Nat.reduceAdd]; refine hK0 _ ?_; clear hK0 K0)
  have hN : nv L < 1000000000 ^ (2 * L.length) := by
    rw [Nat.pow_mul]
    exact Nat.lt_of_lt_of_le (nv_lt hL) (Nat.pow_le_pow_left (by decide) _)
  have hA := limbs_length_nv hL
  generalize nv L = N at *
  have hq0 := limbs_length_mono (show N / 10 ≤ N by omega)
  have hlen : (revR N).length ≤ 18000001 := by
    have := digits_length (Nat.lt_of_le_of_lt (show N / 10 ≤ N by omega) hN)
    simp only [revR, List.length_cons]
    omega
  have hR : [dig (N % 10)] ++ digits (N / 10) = revR N := rfl
  generalize hqe : N / 10 = q at *
  have hd0 : (48 + ((N % 10 : Nat) : Int)) % 256 = dig (N % 10) := by unfold dig; omega
  generalize hT : revR N = T at *
  refine awp_seq_k fun K0 hK0 => ?_
  refine awp_region (Θ := Θ) (Γ := Γ) [3, 4, 5] ΘOK ΓOK rfl ?_
  repeat' (first
    | (with_reducible refine arun_nil ?_)
    | ((with_reducible apply arun_any); (focus exact rfl); (focus (simp (disch := first | assumption | (with_reducible exact okL_limbs _) | omega) only [go_sem, ↓reduceIte, Nat.reduceEqDiff, reduceCtorEq, Nat.reduceAdd]; with_reducible exact rfl)); with_reducible (first | refine okk_some ?_ | (refine okk_ite ?_ ?_; (focus omega)) | (refine okk_ifn ?_ ?_; (focus omega)))))
  all_goals (simp only [go_sem, ↓reduceIte, Nat.reduceEqDiff, reduceCtorEq, Nat.reduceAdd]; refine hK0 _ ?_; clear hK0 K0)
  refine awp_seq_k fun K0 hK0 => ?_
  refine awp_region (Θ := Θ) (Γ := Γ) [3, 5] ΘOK ΓOK rfl ?_
  repeat' (first
    | (with_reducible refine arun_nil ?_)
    | ((with_reducible apply arun_any); (focus exact rfl); (focus (simp (disch := first | assumption | (with_reducible exact okL_limbs _) | omega) only [go_sem, ↓reduceIte, Nat.reduceEqDiff, reduceCtorEq, Nat.reduceAdd]; with_reducible exact rfl)); with_reducible (first | refine okk_some ?_ | (refine okk_ite ?_ ?_; (focus omega)) | (refine okk_ifn ?_ ?_; (focus omega)))))
  all_goals (simp only [go_sem, ↓reduceIte, Nat.reduceEqDiff, reduceCtorEq, Nat.reduceAdd]; refine hK0 _ ?_; clear hK0 K0)
  rw [hd0]
  refine awp_seq_k fun K0 hK0 => ?_
  refine awp_block ?_   -- 0
  refine awp_loop_st (ι := Nat × List Int) (fun p => [(3, U p.1), (5, .own 18)]) (fun p => [(18, ⟨5, 1, ints .u8 p.2, none⟩)]) (fun p => p.1)
    (fun p => (limbs p.1).length ≤ 1000000 ∧ p.2 ++ digits p.1 = T) (q, [dig (N % 10)])
    ⟨by simp only; omega, hR⟩ (by simp [agree_cons, agree_nil, slook_cons, U]) rfl ?_
  rintro ⟨m, D⟩ ⟨h1, h2⟩
  simp only at h1 h2 ⊢
  refine awp_seq_k fun K1 hK1 => ?_
  refine awp_seq_k fun K2 hK2 => ?_
  refine awp_region (Θ := Θ) (Γ := Γ) [3, 5, 21] ΘOK ΓOK rfl ?_
  repeat' (first
    | (with_reducible refine arun_nil ?_)
    | ((with_reducible apply arun_any); (focus exact rfl); (focus (simp (disch := first | assumption | (with_reducible exact okL_limbs _) | omega) only [go_sem, ↓reduceIte, Nat.reduceEqDiff, reduceCtorEq, Nat.reduceAdd]; with_reducible exact rfl)); with_reducible (first | refine okk_some ?_ | (refine okk_ite ?_ ?_; (focus omega)) | (refine okk_ifn ?_ ?_; (focus omega)))))
  all_goals (simp only [go_sem, ↓reduceIte, Nat.reduceEqDiff, reduceCtorEq, Nat.reduceAdd]; refine hK2 _ ?_; clear hK2 K2)
  apply awp_cond
  (focus (simp only [go_sem, ↓reduceIte, Nat.reduceEqDiff, reduceCtorEq, Nat.reduceAdd]; exact rfl))
  all_goals intro hc
  ·
    have hm : m ≠ 0 := by
      intro e; subst e; simp [limbs_zero] at hc
    clear hc
    refine awp_skip ?_
    refine hK1 _ ?_; clear hK1 K1
    refine awp_block ?_   -- 1
    have hmok := okL_limbs m
    have h1' : (limbs m).length ≤ 35184372088831 := by omega
    have hmv := nv_limbs m
    refine awp_seq_k fun K1 hK1 => ?_
    refine awp_region (Θ := Θ) (Γ := Γ) [3, 4, 5] ΘOK ΓOK rfl ?_
    repeat' (first
      | (with_reducible refine arun_nil ?_)
      | ((with_reducible apply arun_any); (focus exact rfl); (focus (simp (disch := first | assumption | (with_reducible exact okL_limbs _) | omega) only [go_sem, ↓reduceIte, Nat.reduceEqDiff, reduceCtorEq, Nat.reduceAdd, hmv]; with_reducible exact rfl)); with_reducible (first | refine okk_some ?_ | (refine okk_ite ?_ ?_; (focus omega)) | (refine okk_ifn ?_ ?_; (focus omega)))))
    all_goals (simp only [go_sem, ↓reduceIte, Nat.reduceEqDiff, reduceCtorEq, Nat.reduceAdd]; refine hK1 _ ?_; clear hK1 K1)
    rw [digits_pos hm] at h2
    have hd : (48 + ((m % 10 : Nat) : Int)) % 256 = dig (m % 10) := by unfold dig; omega
    have hDl : D.length ≤ 18000001 := by
      have := congrArg List.length h2
      simp only [List.length_append] at this
      omega
    refine awp_region (Θ := Θ) (Γ := Γ) [3, 5] ΘOK ΓOK rfl ?_
    repeat' (first
      | (with_reducible refine arun_nil ?_)
      | ((with_reducible apply arun_any); (focus exact rfl); (focus (simp (disch := first | assumption | (with_reducible exact okL_limbs _) | omega) only [go_sem, ↓reduceIte, Nat.reduceEqDiff, reduceCtorEq, Nat.reduceAdd]; with_reducible exact rfl)); with_reducible (first | refine okk_some ?_ | (refine okk_ite ?_ ?_; (focus omega)) | (refine okk_ifn ?_ ?_; (focus omega)))))
    all_goals (simp only [go_sem, ↓reduceIte, Nat.reduceEqDiff, reduceCtorEq, Nat.reduceAdd])
    refine ⟨(m / 10, D ++ [dig (m % 10)]), ⟨Nat.le_trans (limbs_length_mono (show m / 10 ≤ m by omega)) h1, by simpa using h2⟩, ?_, ?_, by simp only; omega⟩
    ·
      simp [agree_cons, agree_nil, slook_cons, U]
    · rw [hd]
  ·
    have hm : m = 0 := by
      rw [← limbs_eq_nil]; apply List.eq_nil_of_length_eq_zero
      simpa using hc
    subst hm
    rw [digits_zero, List.append_nil] at h2
    subst h2
    refine awp_exit ?_   -- exit 0
    simp only [Nat.reduceEqDiff, ↓reduceIte]
    refine hK0 _ ?_; clear hK0 K0 hK1 K1
    clear hc
    refine awp_seq_k fun K0 hK0 => ?_
    refine awp_region (Θ := Θ) (Γ := Γ) [5, 6] ΘOK ΓOK rfl ?_
    repeat' (first
      | (with_reducible refine arun_nil ?_)
      | ((with_reducible apply arun_any); (focus exact rfl); (focus (simp (disch := first | assumption | (with_reducible exact okL_limbs _) | omega) only [go_sem, ↓reduceIte, Nat.reduceEqDiff, reduceCtorEq, Nat.reduceAdd]; with_reducible exact rfl)); with_reducible (first | refine okk_some ?_ | (refine okk_ite ?_ ?_; (focus omega)) | (refine okk_ifn ?_ ?_; (focus omega)))))
    all_goals (simp only [go_sem, ↓reduceIte, Nat.reduceEqDiff, reduceCtorEq, Nat.reduceAdd]; refine hK0 _ ?_; clear hK0 K0)
    refine awp_own 6 46 5 1 (by decide) rfl rfl ?_
    simp only [go_sem, ↓reduceIte, Nat.reduceEqDiff, reduceCtorEq, Nat.reduceAdd]
    refine awp_seq_k fun K0 hK0 => ?_
    refine awp_seq_k fun K1 hK1 => ?_
    refine awp_region (Θ := Θ) (Γ := Γ) [5, 6, 7] ΘOK ΓOK rfl ?_
    repeat' (first
      | (with_reducible refine arun_nil ?_)
      | ((with_reducible apply arun_any); (focus exact rfl); (focus (simp (disch := first | assumption | (with_reducible exact okL_limbs _) | omega) only [go_sem, ↓reduceIte, Nat.reduceEqDiff, reduceCtorEq, Nat.reduceAdd]; with_reducible exact rfl)); with_reducible (first | refine okk_some ?_ | (refine okk_ite ?_ ?_; (focus omega)) | (refine okk_ifn ?_ ?_; (focus omega)))))
    all_goals (simp only [go_sem, ↓reduceIte, Nat.reduceEqDiff, reduceCtorEq, Nat.reduceAdd]; refine hK1 _ ?_; clear hK1 K1)
    refine awp_block ?_   -- 2
    refine awp_loop_st (ι := Nat × List Int) (fun p => [(5, .own 18), (6, .own 46), (7, vInt .i64 ((p.1 : Int) - 1))]) (fun p => [(18, ⟨5, 1, ints .u8 D, none⟩), (46, ⟨5, 1, ints .u8 p.2, none⟩)]) (fun p => p.1)
      (fun p => p.1 ≤ D.length ∧ p.2 ++ (D.take p.1).reverse = D.reverse) (D.length, [])
      ⟨Nat.le_refl _, by simp⟩ (by simp [agree_cons, agree_nil, slook_cons, vInt]) (by simp [ints]) ?_
    rintro ⟨i, O⟩ ⟨g1, g2⟩
    simp only at g1 g2 ⊢
    have hOl : O.length ≤ 18000001 := by
      have := congrArg List.length g2
      simp only [List.length_append, List.length_reverse, List.length_take] at this
      omega
    refine awp_seq_k fun K1 hK1 => ?_
    refine awp_seq_k fun K2 hK2 => ?_
    refine awp_region (Θ := Θ) (Γ := Γ) [5, 6, 7, 37] ΘOK ΓOK rfl ?_
    repeat' (first
      | (with_reducible refine arun_nil ?_)
      | ((with_reducible apply arun_any); (focus exact rfl); (focus (simp (disch := first | assumption | (with_reducible exact okL_limbs _) | omega) only [go_sem, ↓reduceIte, Nat.reduceEqDiff, reduceCtorEq, Nat.reduceAdd]; with_reducible exact rfl)); with_reducible (first | refine okk_some ?_ | (refine okk_ite ?_ ?_; (focus omega)) | (refine okk_ifn ?_ ?_; (focus omega)))))
    all_goals (simp only [go_sem, ↓reduceIte, Nat.reduceEqDiff, reduceCtorEq, Nat.reduceAdd]; refine hK2 _ ?_; clear hK2 K2)
    apply awp_cond
    (focus (simp only [go_sem, ↓reduceIte, Nat.reduceEqDiff, reduceCtorEq, Nat.reduceAdd]; exact rfl))
    all_goals intro hc
    ·
      refine awp_skip ?_
      refine hK1 _ ?_; clear hK1 K1
      obtain ⟨j, rfl⟩ : ∃ j, i = j + 1 := ⟨i - 1, by simp at hc; omega⟩
      have e1 : ((j + 1 : Nat) : Int) - 1 = (j : Int) := by omega
      rw [e1]
      rw [take_succ_getD D (show j < D.length by omega), List.reverse_append, List.reverse_singleton] at g2
      refine awp_seq_k fun K1 hK1 => ?_
      refine awp_block ?_   -- 3
      refine awp_region (Θ := Θ) (Γ := Γ) [5, 6, 7] ΘOK ΓOK rfl ?_
      repeat' (first
        | (with_reducible refine arun_nil ?_)
        | ((with_reducible apply arun_any); (focus exact rfl); (focus (simp (disch := first | assumption | (with_reducible exact okL_limbs _) | omega) only [go_sem, ↓reduceIte, Nat.reduceEqDiff, reduceCtorEq, Nat.reduceAdd]; with_reducible exact rfl)); with_reducible (first | refine okk_some ?_ | (refine okk_ite ?_ ?_; (focus omega)) | (refine okk_ifn ?_ ?_; (focus omega)))))
      all_goals (simp only [go_sem, ↓reduceIte, Nat.reduceEqDiff, reduceCtorEq, Nat.reduceAdd])
      refine hK1 _ ?_; clear hK1 K1
      refine awp_region (Θ := Θ) (Γ := Γ) [5, 6, 7] ΘOK ΓOK rfl ?_
      repeat' (first
        | (with_reducible refine arun_nil ?_)
        | ((with_reducible apply arun_any); (focus exact rfl); (focus (simp (disch := first | assumption | (with_reducible exact okL_limbs _) | omega) only [go_sem, ↓reduceIte, Nat.reduceEqDiff, reduceCtorEq, Nat.reduceAdd]; with_reducible exact rfl)); with_reducible (first | refine okk_some ?_ | (refine okk_ite ?_ ?_; (focus omega)) | (refine okk_ifn ?_ ?_; (focus omega)))))
      all_goals (simp only [go_sem, ↓reduceIte, Nat.reduceEqDiff, reduceCtorEq, Nat.reduceAdd])
      refine ⟨(j, O ++ [D.getD j 0]), ⟨by simp only; omega, by simpa using g2⟩, ?_, rfl, by simp only; omega⟩
      ·
        first | (simp [agree_cons, agree_nil, slook_cons, vInt]; done) | (simp [agree_cons, agree_nil, slook_cons, vInt]; omega) | (simp [agree_cons, agree_nil, slook_cons, vInt]; grind)
    ·
      have hi : i = 0 := by simp at hc; omega
      subst hi
      rw [List.take_zero, List.reverse_nil, List.append_nil] at g2
      subst g2
      refine awp_exit ?_   -- exit 2
      simp only [Nat.reduceEqDiff, ↓reduceIte]
      refine hK0 _ ?_; clear hK0 K0 hK1 K1
      clear hc
      refine awp_seq_k fun K0 hK0 => ?_
      refine awp_region (Θ := Θ) (Γ := Γ) [2] ΘOK ΓOK rfl ?_
      repeat' (first
        | (with_reducible refine arun_nil ?_)
        | ((with_reducible apply arun_any); (focus exact rfl); (focus (simp (disch := first | assumption | (with_reducible exact okL_limbs _) | omega) only [go_sem, ↓reduceIte, Nat.reduceEqDiff, reduceCtorEq, Nat.reduceAdd]; with_reducible exact rfl)); with_reducible (first | refine okk_some ?_ | (refine okk_ite ?_ ?_; (focus omega)) | (refine okk_ifn ?_ ?_; (focus omega)))))
      all_goals (simp only [go_sem, ↓reduceIte, Nat.reduceEqDiff, reduceCtorEq, Nat.reduceAdd]; refine hK0 _ ?_; clear hK0 K0)
      refine awp_ret ?_
      simp only [go_sem, ↓reduceIte, Nat.reduceEqDiff, reduceCtorEq, Nat.reduceAdd, Res, textOf_revR, hT]
end RText

/-! ### NatTexts -/
def spTrue1 : List AV → Option AV := sp1 0 fun _ => some (.val (.bool true))
attribute [go_sem] spTrue1
namespace NatTexts
def Γ : FuncId → Abs.Spec
  | 18 => .pure spCut
  | 21 => .pure spAwake
  | 23 => .pure spText
  | 24 => .pure spText
  | _ => .none
theorem ΓOK : ∀ f, SpecOK Try.prog f (Γ f) := by
  intro f
  unfold Γ
  split
  · exact ⟨⟨_, Try.func18, by decide +kernel, rfl⟩, Cut.ok⟩
  · exact ⟨⟨_, Try.func21, by decide +kernel, rfl⟩, Awake.ok⟩
  · exact ⟨⟨_, Try.func23, by decide +kernel, rfl⟩, Text.ok⟩
  · exact ⟨⟨_, Try.func24, by decide +kernel, rfl⟩, RText.ok⟩
  · trivial
attribute [local go_sem] Γ
theorem ok : PureOK Try.prog 4 spTrue1 := by
  refine pure_of_awp (n := 13) [2] Try.func4 rfl rfl rfl ?_
  intro M0 w0 args r h
  obtain ⟨L, rfl, hL, hLl, hr⟩ := sp1_some h
  cases hr
  clear h
  refine ⟨by simp, ?_⟩
  have e60 : (60 : Int).toNat = 60 := rfl
  have hA := okL_take 60 hL
  have hAl : (L.take 60).length ≤ 60 := by simp; omega
  refine awp_seq_k fun K hK => ?_
  refine awp_region (Θ := Θ) (Γ := Γ) [0] ΘOK ΓOK rfl ?_
  repeat' (first
    | (with_reducible refine arun_nil ?_)
    | ((with_reducible apply arun_any); (focus exact rfl); (focus (simp (disch := first | assumption | (with_reducible exact okL_limbs _) | omega) only [go_sem, ↓reduceIte, Nat.reduceEqDiff, reduceCtorEq, Nat.reduceAdd, e60]; with_reducible exact rfl)); with_reducible (first | refine okk_some ?_ | (refine okk_ite ?_ ?_; (focus omega)) | (refine okk_ifn ?_ ?_; (focus omega)))))
  all_goals (simp only [go_sem, ↓reduceIte, Nat.reduceEqDiff, reduceCtorEq, Nat.reduceAdd]; refine hK _ ?_; clear hK K)
  refine awp_seq_k fun K hK => ?_
  refine awp_region (Θ := Θ) (Γ := Γ) [0] ΘOK ΓOK rfl ?_
  repeat' (first
    | (with_reducible refine arun_nil ?_)
    | ((with_reducible apply arun_any); (focus exact rfl); (focus (simp (disch := first | assumption | (with_reducible exact okL_limbs _) | omega) only [go_sem, ↓reduceIte, Nat.reduceEqDiff, reduceCtorEq, Nat.reduceAdd, e60]; with_reducible exact rfl)); with_reducible (first | refine okk_some ?_ | (refine okk_ite ?_ ?_; (focus omega)) | (refine okk_ifn ?_ ?_; (focus omega)))))
  all_goals (simp only [go_sem, ↓reduceIte, Nat.reduceEqDiff, reduceCtorEq, Nat.reduceAdd]; refine hK _ ?_; clear hK K)
  generalize L.take 60 = A at *
  refine awp_seq_k fun K hK => ?_
  refine awp_region (Θ := Θ) (Γ := Γ) [2] ΘOK ΓOK rfl ?_
  repeat' (first
    | (with_reducible refine arun_nil ?_)
    | ((with_reducible apply arun_any); (focus exact rfl); (focus (simp (disch := first | assumption | (with_reducible exact okL_limbs _) | omega) only [go_sem, ↓reduceIte, Nat.reduceEqDiff, reduceCtorEq, Nat.reduceAdd]; with_reducible exact rfl)); with_reducible (first | refine okk_some ?_ | (refine okk_ite ?_ ?_; (focus omega)) | (refine okk_ifn ?_ ?_; (focus omega))))
    | ((with_reducible apply arun_gyes); (focus exact rfl); (focus (simp only [go_sem, ↓reduceIte, Nat.reduceEqDiff, reduceCtorEq, Nat.reduceAdd]; with_reducible exact rfl)); (focus first | assumption | exact rfl))
    | ((with_reducible apply arun_gundef); (focus exact rfl); (focus (simp only [go_sem, ↓reduceIte, Nat.reduceEqDiff, reduceCtorEq, Nat.reduceAdd]; done)))
    | ((with_reducible apply arun_gno); (focus exact rfl); (focus (simp only [go_sem, ↓reduceIte, Nat.reduceEqDiff, reduceCtorEq, Nat.reduceAdd]; with_reducible exact rfl)); (focus first | assumption | exact rfl))
    | ((with_reducible apply arun_guard); (focus exact rfl); (focus (simp only [go_sem, ↓reduceIte, Nat.reduceEqDiff, reduceCtorEq, Nat.reduceAdd]; with_reducible exact rfl)); (focus intro hb); rotate_left; (focus intro hb); rotate_right))
  all_goals (simp only [go_sem, ↓reduceIte, Nat.reduceEqDiff, reduceCtorEq, Nat.reduceAdd]; refine hK _ ?_; clear hK K)
  refine awp_ret ?_
  simp only [go_sem, ↓reduceIte, Nat.reduceEqDiff, reduceCtorEq, Nat.reduceAdd, Res]
end NatTexts
end Go.Proofs
