/- Contracts of functions that the law reaches: what they compute. -/
import Derived.Test.YtjnejhlnhapogaaN4
namespace Go.Proofs
open Go.Abs Go.NatMath
set_option linter.unusedVariables false
set_option linter.unusedSimpArgs false

/-! ### slices.Reverse of bytes -/
def fReverse : List AV → List Int → Option (AV × List Int)
  | [], S => if S.length ≤ 9223372036854775807 then some (.tup [], S.reverse) else none
  | _, _ => none
def spReverse : List AV → Hp → Option (AV × Hp) := spInpl .u8 fReverse
attribute [go_sem] spReverse fReverse
namespace Reverse
def Γ : FuncId → Abs.Spec := fun _ => .none
theorem ΓOK : ∀ f, SpecOK Try.prog f (Γ f) := fun _ => trivial
theorem ok : InplOK Try.prog 55 spReverse := by
  refine inpl_of_awp (n := 28) [] Try.func55 rfl rfl rfl ?_
  intro M0 w0 e hdr rest off len L S r hol hsp hS hr
  cases rest with
  | cons x xs => simp [fReverse] at hsp
  | nil =>
  have hsl : ((L.drop off).take len).length = len := by simp; omega
  simp only [fReverse, hsl] at hsp
  split at hsp
  case isFalse => cases hsp
  rename_i hbig
  simp only [Option.some.injEq, Prod.mk.injEq] at hsp
  obtain ⟨rfl, rfl⟩ := hsp
  refine ⟨by simp, ?_⟩
  refine awp_seq_k fun K hK => ?_
  refine awp_region (Θ := Θ) (Γ := Γ) [0, 2, 3] ΘOK ΓOK rfl ?_
  repeat' (first
    | (with_reducible refine arun_nil ?_)
    | ((with_reducible apply arun_step); (focus exact rfl); (focus (simp (disch := first | assumption | omega) only [go_sem, ↓reduceIte, Nat.reduceEqDiff, reduceCtorEq, Nat.reduceAdd]; with_reducible exact rfl)))
    | ((with_reducible apply arun_if); (focus exact rfl); (focus (simp (disch := first | assumption | omega) only [go_sem, ↓reduceIte, Nat.reduceEqDiff, reduceCtorEq, Nat.reduceAdd]; with_reducible exact rfl)); (focus omega))
    | ((with_reducible apply arun_ifn); (focus exact rfl); (focus (simp (disch := first | assumption | omega) only [go_sem, ↓reduceIte, Nat.reduceEqDiff, reduceCtorEq, Nat.reduceAdd]; with_reducible exact rfl)); (focus omega))
    | ((with_reducible apply arun_gyes); (focus exact rfl); (focus (simp only [go_sem, ↓reduceIte, Nat.reduceEqDiff, reduceCtorEq, Nat.reduceAdd]; with_reducible exact rfl)); (focus first | assumption | exact rfl))
    | ((with_reducible apply arun_gno); (focus exact rfl); (focus (simp only [go_sem, ↓reduceIte, Nat.reduceEqDiff, reduceCtorEq, Nat.reduceAdd]; with_reducible exact rfl)); (focus first | assumption | exact rfl))
    | ((with_reducible apply arun_guard); (focus exact rfl); (focus (simp only [go_sem, ↓reduceIte, Nat.reduceEqDiff, reduceCtorEq, Nat.reduceAdd]; with_reducible exact rfl)); (focus intro hb); rotate_left; (focus intro hb); rotate_right))
  all_goals (simp only [go_sem, ↓reduceIte, Nat.reduceEqDiff, reduceCtorEq, Nat.reduceAdd]; refine hK _ ?_; clear hK K)
  refine awp_block ?_
  refine awp_loop_st (ι := Nat × List Int) (fun p => [(0, .ref 1000 off len), (2, vInt .i64 p.1), (3, vInt .i64 ((len : Int) - 1 - p.1))]) (fun p => [(1000, ⟨e, 1, ints .u8 p.2, hdr⟩)]) (fun p => len - p.1)
    (fun p => 2 * p.1 ≤ len + 1 ∧ p.2.length = L.length ∧ ∀ k, p.2.getD k 0 = if off ≤ k ∧ k < off + len ∧ (k - off < p.1 ∨ len - p.1 ≤ k - off) then L.getD (off + (len - 1 - (k - off))) 0 else L.getD k 0) (0, L)
    ⟨by simp, rfl, fun k => by rw [if_neg (by simp; omega)]⟩ (by simp [agree_cons, agree_nil, slook_cons, vInt]) (by simp) ?_
  rintro ⟨n, C⟩ ⟨h1, h2, h3⟩
  simp only at h1 h2 h3 ⊢
  refine awp_seq_k fun K hK => ?_
  refine awp_seq_k fun K1 hK1 => ?_
  refine awp_region (Θ := Θ) (Γ := Γ) [0, 2, 3, 9] ΘOK ΓOK rfl ?_
  repeat' (first
    | (with_reducible refine arun_nil ?_)
    | ((with_reducible apply arun_step); (focus exact rfl); (focus (simp (disch := first | assumption | omega) only [go_sem, ↓reduceIte, Nat.reduceEqDiff, reduceCtorEq, Nat.reduceAdd]; with_reducible exact rfl)))
    | ((with_reducible apply arun_if); (focus exact rfl); (focus (simp (disch := first | assumption | omega) only [go_sem, ↓reduceIte, Nat.reduceEqDiff, reduceCtorEq, Nat.reduceAdd]; with_reducible exact rfl)); (focus omega))
    | ((with_reducible apply arun_ifn); (focus exact rfl); (focus (simp (disch := first | assumption | omega) only [go_sem, ↓reduceIte, Nat.reduceEqDiff, reduceCtorEq, Nat.reduceAdd]; with_reducible exact rfl)); (focus omega))
    | ((with_reducible apply arun_gyes); (focus exact rfl); (focus (simp only [go_sem, ↓reduceIte, Nat.reduceEqDiff, reduceCtorEq, Nat.reduceAdd]; with_reducible exact rfl)); (focus first | assumption | exact rfl))
    | ((with_reducible apply arun_gno); (focus exact rfl); (focus (simp only [go_sem, ↓reduceIte, Nat.reduceEqDiff, reduceCtorEq, Nat.reduceAdd]; with_reducible exact rfl)); (focus first | assumption | exact rfl))
    | ((with_reducible apply arun_guard); (focus exact rfl); (focus (simp only [go_sem, ↓reduceIte, Nat.reduceEqDiff, reduceCtorEq, Nat.reduceAdd]; with_reducible exact rfl)); (focus intro hb); rotate_left; (focus intro hb); rotate_right))
  all_goals (simp only [go_sem, ↓reduceIte, Nat.reduceEqDiff, reduceCtorEq, Nat.reduceAdd]; refine hK1 _ ?_; clear hK1 K1)
  apply awp_cond
  (focus (simp only [go_sem, ↓reduceIte, Nat.reduceEqDiff, reduceCtorEq, Nat.reduceAdd]; exact rfl))
  all_goals intro hc
  · have hn : (n : Int) < (len : Int) - 1 - n := by simpa using hc
    refine awp_skip ?_
    refine hK _ ?_; clear hK K
    refine awp_seq_k fun K hK => ?_
    refine awp_block ?_
    have e1 : ((len : Int) - 1 - (n : Int)).toNat = len - 1 - n := by omega
    refine awp_draw (Θ := Θ) (Γ := Γ) [0, 2, 3] ΘOK ΓOK mixed rfl (by decide +kernel) ?_
    repeat' (first
      | (with_reducible refine arunD_nil ?_)
      | ((with_reducible apply arunD_step); (focus (simp (disch := first | assumption | omega) only [go_sem, ↓reduceIte, Nat.reduceEqDiff, reduceCtorEq, Nat.reduceAdd, e1]; with_reducible exact rfl)))
      | ((with_reducible apply arunD_if); (focus (simp (disch := first | assumption | omega) only [go_sem, ↓reduceIte, Nat.reduceEqDiff, reduceCtorEq, Nat.reduceAdd, e1]; with_reducible exact rfl)); (focus omega))
      | ((with_reducible apply arunD_ifn); (focus (simp (disch := first | assumption | omega) only [go_sem, ↓reduceIte, Nat.reduceEqDiff, reduceCtorEq, Nat.reduceAdd, e1]; with_reducible exact rfl)); (focus omega)))
    all_goals (simp only [go_sem, ↓reduceIte, Nat.reduceEqDiff, reduceCtorEq, Nat.reduceAdd])
    refine hK _ ?_; clear hK K
    have c1 : ((C.set (off + n) (C.getD (off + (len - 1 - n)) 0)).set (off + (len - 1 - n)) (C.getD (off + n) 0)).length = C.length := by simp
    have c2 : ∀ k, ((C.set (off + n) (C.getD (off + (len - 1 - n)) 0)).set (off + (len - 1 - n)) (C.getD (off + n) 0)).getD k 0 = if k = off + (len - 1 - n) then C.getD (off + n) 0 else if k = off + n then C.getD (off + (len - 1 - n)) 0 else C.getD k 0 := fun k => by
      rw [getD_set, getD_set, List.length_set]
      by_cases k1 : k = off + (len - 1 - n)
      · rw [if_pos ⟨k1, by omega⟩, if_pos k1]
      · rw [if_neg (fun e => k1 e.1), if_neg k1]
        by_cases k2 : k = off + n
        · rw [if_pos ⟨k2, by omega⟩, if_pos k2]
        · rw [if_neg (fun e => k2 e.1), if_neg k2]
    generalize (C.set (off + n) (C.getD (off + (len - 1 - n)) 0)).set (off + (len - 1 - n)) (C.getD (off + n) 0) = D at *
    refine awp_region (Θ := Θ) (Γ := Γ) [0, 2, 3] ΘOK ΓOK rfl ?_
    repeat' (first
      | (with_reducible refine arun_nil ?_)
      | ((with_reducible apply arun_step); (focus exact rfl); (focus (simp (disch := first | assumption | omega) only [go_sem, ↓reduceIte, Nat.reduceEqDiff, reduceCtorEq, Nat.reduceAdd]; with_reducible exact rfl)))
      | ((with_reducible apply arun_if); (focus exact rfl); (focus (simp (disch := first | assumption | omega) only [go_sem, ↓reduceIte, Nat.reduceEqDiff, reduceCtorEq, Nat.reduceAdd]; with_reducible exact rfl)); (focus omega))
      | ((with_reducible apply arun_ifn); (focus exact rfl); (focus (simp (disch := first | assumption | omega) only [go_sem, ↓reduceIte, Nat.reduceEqDiff, reduceCtorEq, Nat.reduceAdd]; with_reducible exact rfl)); (focus omega))
      | ((with_reducible apply arun_gyes); (focus exact rfl); (focus (simp only [go_sem, ↓reduceIte, Nat.reduceEqDiff, reduceCtorEq, Nat.reduceAdd]; with_reducible exact rfl)); (focus first | assumption | exact rfl))
      | ((with_reducible apply arun_gno); (focus exact rfl); (focus (simp only [go_sem, ↓reduceIte, Nat.reduceEqDiff, reduceCtorEq, Nat.reduceAdd]; with_reducible exact rfl)); (focus first | assumption | exact rfl))
      | ((with_reducible apply arun_guard); (focus exact rfl); (focus (simp only [go_sem, ↓reduceIte, Nat.reduceEqDiff, reduceCtorEq, Nat.reduceAdd]; with_reducible exact rfl)); (focus intro hb); rotate_left; (focus intro hb); rotate_right))
    all_goals (simp only [go_sem, ↓reduceIte, Nat.reduceEqDiff, reduceCtorEq, Nat.reduceAdd])
    refine ⟨(n + 1, D), ⟨by simp only; omega, by simp only; omega, fun k => ?_⟩, ?_, rfl, by simp only; omega⟩
    · simp only
      have a1 := h3 (off + n)
      rw [if_neg (by omega)] at a1
      have a2 := h3 (off + (len - 1 - n))
      rw [if_neg (by omega)] at a2
      rw [c2 k, a1, a2, h3 k]
      by_cases k1 : k = off + (len - 1 - n)
      · rw [if_pos k1, if_pos (by omega)]
        congr 1; omega
      · rw [if_neg k1]
        by_cases k2 : k = off + n
        · rw [if_pos k2, if_pos (by omega)]
          congr 1; omega
        · rw [if_neg k2]
          by_cases k3 : off ≤ k ∧ k < off + len ∧ (k - off < n ∨ len - n ≤ k - off)
          · rw [if_pos k3, if_pos (by omega)]
          · rw [if_neg k3, if_neg (by omega)]
    ·
      first | (simp [agree_cons, agree_nil, slook_cons, vInt]; done) | (simp [agree_cons, agree_nil, slook_cons, vInt]; omega) | (simp [agree_cons, agree_nil, slook_cons, vInt]; grind)
  · have hn : ¬ (n : Int) < (len : Int) - 1 - n := by simpa using hc
    refine awp_exit ?_
    rw [if_pos rfl]
    refine ⟨rfl, ?_⟩
    have hC : C = L.take off ++ ((L.drop off).take len).reverse ++ L.drop (off + len) := by
      refine ext_getD (by simp; omega) (fun k hk => ?_)
      rw [h3 k, getD_append, getD_append]
      simp only [List.length_append, List.length_take, List.length_reverse, List.length_drop]
      by_cases k1 : k < off
      · rw [if_neg (by omega), if_pos (by omega), if_pos (by omega), getD_take, if_pos k1]
      · by_cases k2 : k < off + len
        · rw [if_pos (show k < min off L.length + min len (L.length - off) by omega), if_neg (show ¬ k < min off L.length by omega), getD_reverse _ (by simp; omega), hsl, getD_take, getD_drop]
          rw [if_pos (show len - 1 - (k - min off L.length) < len by omega)]
          split
          · congr 1; omega
          · congr 1; omega
        · rw [if_neg (by omega), if_neg (by omega), getD_drop]
          congr 1; omega
    rw [hC]
    rfl
end Reverse

/-! ### nat.Text -/
/-- A digit as a byte. -/
def dig (d : Nat) : Int := 48 + (d : Int)
/-- The digits of a number below 10^9, the lowest first, at most k; only those that matter where nothing is above. -/
def lowDigits : Nat → Nat → Bool → List Int
  | 0, _, _ => []
  | k + 1, r, more => if r = 0 ∧ more = false then [] else dig (r % 10) :: lowDigits k (r / 10) more
def revText (n : Nat) : List Int := if n = 0 then [] else lowDigits 9 (n % 1000000000) (decide (n / 1000000000 ≠ 0)) ++ revText (n / 1000000000)
termination_by n
decreasing_by exact Nat.div_lt_self (by omega) (by decide)
theorem lowDigits_length : ∀ (k r : Nat) (b : Bool), (lowDigits k r b).length ≤ k
  | 0, _, _ => by simp [lowDigits]
  | k + 1, r, b => by
    have := lowDigits_length k (r / 10) b
    simp only [lowDigits]
    split
    · simp
    · simp; omega
theorem revText_length {k n : Nat} (h : n < 1000000000 ^ k) : (revText n).length ≤ 9 * k := by
  induction k generalizing n with
  | zero =>
    have : n = 0 := by simp at h; exact h
    subst this; simp [revText]
  | succ k ih =>
    rw [revText]
    split
    · simp
    · have h1 : n / 1000000000 < 1000000000 ^ k := Nat.div_lt_of_lt_mul (by rw [Nat.pow_succ, Nat.mul_comm] at h; exact h)
      have h2 := ih h1
      have h3 := lowDigits_length 9 (n % 1000000000) (decide (n / 1000000000 ≠ 0))
      rw [List.length_append]
      omega
def textOf (n : Nat) : List Int := if n = 0 then [48] else (revText n).reverse
def spText : List AV → Option AV
  | [x] => (decK 0 x).bind fun L => if L.length ≤ 1000000 then some (vStr (strOfNums (textOf (nv L)))) else none
  | _ => none
attribute [go_sem] spText vStr
theorem spText_some {args : List AV} {r : AV} (h : spText args = some r) : ∃ L, args = [.lst (ints .u32 L)] ∧ okL L ∧ L.length ≤ 1000000 ∧ r = vStr (strOfNums (textOf (nv L))) := by
  unfold spText at h
  split at h
  · obtain ⟨L, h1, h2⟩ := Option.bind_eq_some_iff.1 h
    obtain ⟨rfl, h3, h4⟩ := decK_some h1
    split at h2
    · rename_i hc; cases h2; exact ⟨L, rfl, h3, hc, rfl⟩
    · cases h2
  · cases h

namespace Text
def Γ : FuncId → Abs.Spec
  | 25 => .pure spPlain
  | 49 => .pure spShort
  | 55 => .inpl spReverse
  | _ => .none
theorem ΓOK : ∀ f, SpecOK Try.prog f (Γ f) := by
  intro f
  unfold Γ
  split
  · exact ⟨⟨_, Try.func25, by decide +kernel, rfl⟩, Plain.ok⟩
  · exact ⟨⟨_, Try.func49, by decide +kernel, rfl⟩, Short.ok⟩
  · exact ⟨⟨_, Try.func55, by decide +kernel, rfl⟩, Reverse.ok⟩
  · trivial
attribute [local go_sem] Γ
theorem ok : PureOK Try.prog 23 spText := by
  refine pure_of_awp (n := 44) [2] Try.func23 rfl rfl rfl ?_
  intro M0 w0 args r h
  obtain ⟨L, rfl, hL, hLl, rfl⟩ := spText_some h
  clear h
  refine ⟨by simp, ?_⟩
  refine awp_seq_k fun K hK => ?_
  refine awp_region (Θ := Θ) (Γ := Γ) [0] ΘOK ΓOK rfl ?_
  repeat' (first
    | (with_reducible refine arun_nil ?_)
    | ((with_reducible apply arun_step); (focus exact rfl); (focus (simp (disch := first | assumption | omega) only [go_sem, ↓reduceIte, Nat.reduceEqDiff, reduceCtorEq, Nat.reduceAdd]; with_reducible exact rfl)))
    | ((with_reducible apply arun_if); (focus exact rfl); (focus (simp (disch := first | assumption | omega) only [go_sem, ↓reduceIte, Nat.reduceEqDiff, reduceCtorEq, Nat.reduceAdd]; with_reducible exact rfl)); (focus omega))
    | ((with_reducible apply arun_ifn); (focus exact rfl); (focus (simp (disch := first | assumption | omega) only [go_sem, ↓reduceIte, Nat.reduceEqDiff, reduceCtorEq, Nat.reduceAdd]; with_reducible exact rfl)); (focus omega))
    | ((with_reducible apply arun_gyes); (focus exact rfl); (focus (simp only [go_sem, ↓reduceIte, Nat.reduceEqDiff, reduceCtorEq, Nat.reduceAdd]; with_reducible exact rfl)); (focus first | assumption | exact rfl))
    | ((with_reducible apply arun_gno); (focus exact rfl); (focus (simp only [go_sem, ↓reduceIte, Nat.reduceEqDiff, reduceCtorEq, Nat.reduceAdd]; with_reducible exact rfl)); (focus first | assumption | exact rfl))
    | ((with_reducible apply arun_guard); (focus exact rfl); (focus (simp only [go_sem, ↓reduceIte, Nat.reduceEqDiff, reduceCtorEq, Nat.reduceAdd]; with_reducible exact rfl)); (focus intro hb); rotate_left; (focus intro hb); rotate_right))
  all_goals (simp only [go_sem, ↓reduceIte, Nat.reduceEqDiff, reduceCtorEq, Nat.reduceAdd]; refine hK _ ?_; clear hK K)
  have hA := okL_limbs (nv L)
  have hAl := limbs_length_nv hL
  refine awp_seq_k fun K hK => ?_
  refine awp_region (Θ := Θ) (Γ := Γ) [0] ΘOK ΓOK rfl ?_
  repeat' (first
    | (with_reducible refine arun_nil ?_)
    | ((with_reducible apply arun_step); (focus exact rfl); (focus (simp (disch := first | assumption | omega) only [go_sem, ↓reduceIte, Nat.reduceEqDiff, reduceCtorEq, Nat.reduceAdd]; with_reducible exact rfl)))
    | ((with_reducible apply arun_if); (focus exact rfl); (focus (simp (disch := first | assumption | omega) only [go_sem, ↓reduceIte, Nat.reduceEqDiff, reduceCtorEq, Nat.reduceAdd]; with_reducible exact rfl)); (focus omega))
    | ((with_reducible apply arun_ifn); (focus exact rfl); (focus (simp (disch := first | assumption | omega) only [go_sem, ↓reduceIte, Nat.reduceEqDiff, reduceCtorEq, Nat.reduceAdd]; with_reducible exact rfl)); (focus omega))
    | ((with_reducible apply arun_gyes); (focus exact rfl); (focus (simp only [go_sem, ↓reduceIte, Nat.reduceEqDiff, reduceCtorEq, Nat.reduceAdd]; with_reducible exact rfl)); (focus first | assumption | exact rfl))
    | ((with_reducible apply arun_gno); (focus exact rfl); (focus (simp only [go_sem, ↓reduceIte, Nat.reduceEqDiff, reduceCtorEq, Nat.reduceAdd]; with_reducible exact rfl)); (focus first | assumption | exact rfl))
    | ((with_reducible apply arun_guard); (focus exact rfl); (focus (simp only [go_sem, ↓reduceIte, Nat.reduceEqDiff, reduceCtorEq, Nat.reduceAdd]; with_reducible exact rfl)); (focus intro hb); rotate_left; (focus intro hb); rotate_right))
  all_goals (simp only [go_sem, ↓reduceIte, Nat.reduceEqDiff, reduceCtorEq, Nat.reduceAdd]; refine hK _ ?_; clear hK K)
  refine awp_seq_k fun K hK => ?_
  refine awp_seq_k fun K1 hK1 => ?_
  refine awp_region (Θ := Θ) (Γ := Γ) [0, 10] ΘOK ΓOK rfl ?_
  repeat' (first
    | (with_reducible refine arun_nil ?_)
    | ((with_reducible apply arun_step); (focus exact rfl); (focus (simp (disch := first | assumption | omega) only [go_sem, ↓reduceIte, Nat.reduceEqDiff, reduceCtorEq, Nat.reduceAdd]; with_reducible exact rfl)))
    | ((with_reducible apply arun_if); (focus exact rfl); (focus (simp (disch := first | assumption | omega) only [go_sem, ↓reduceIte, Nat.reduceEqDiff, reduceCtorEq, Nat.reduceAdd]; with_reducible exact rfl)); (focus omega))
    | ((with_reducible apply arun_ifn); (focus exact rfl); (focus (simp (disch := first | assumption | omega) only [go_sem, ↓reduceIte, Nat.reduceEqDiff, reduceCtorEq, Nat.reduceAdd]; with_reducible exact rfl)); (focus omega))
    | ((with_reducible apply arun_gyes); (focus exact rfl); (focus (simp only [go_sem, ↓reduceIte, Nat.reduceEqDiff, reduceCtorEq, Nat.reduceAdd]; with_reducible exact rfl)); (focus first | assumption | exact rfl))
    | ((with_reducible apply arun_gno); (focus exact rfl); (focus (simp only [go_sem, ↓reduceIte, Nat.reduceEqDiff, reduceCtorEq, Nat.reduceAdd]; with_reducible exact rfl)); (focus first | assumption | exact rfl))
    | ((with_reducible apply arun_guard); (focus exact rfl); (focus (simp only [go_sem, ↓reduceIte, Nat.reduceEqDiff, reduceCtorEq, Nat.reduceAdd]; with_reducible exact rfl)); (focus intro hb); rotate_left; (focus intro hb); rotate_right))
  all_goals (simp only [go_sem, ↓reduceIte, Nat.reduceEqDiff, reduceCtorEq, Nat.reduceAdd]; refine hK1 _ ?_; clear hK1 K1)
  generalize hN : nv L = N at *
  apply awp_cond
  (focus (simp only [go_sem, ↓reduceIte, Nat.reduceEqDiff, reduceCtorEq, Nat.reduceAdd]; exact rfl))
  all_goals intro hc
  · have h0 : N = 0 := by rw [← limbs_eq_nil]; simpa using hc
    refine awp_seq_k fun K1 hK1 => ?_
    refine awp_region (Θ := Θ) (Γ := Γ) [2] ΘOK ΓOK rfl ?_
    repeat' (first
      | (with_reducible refine arun_nil ?_)
      | ((with_reducible apply arun_step); (focus exact rfl); (focus (simp (disch := first | assumption | omega) only [go_sem, ↓reduceIte, Nat.reduceEqDiff, reduceCtorEq, Nat.reduceAdd]; with_reducible exact rfl)))
      | ((with_reducible apply arun_if); (focus exact rfl); (focus (simp (disch := first | assumption | omega) only [go_sem, ↓reduceIte, Nat.reduceEqDiff, reduceCtorEq, Nat.reduceAdd]; with_reducible exact rfl)); (focus omega))
      | ((with_reducible apply arun_ifn); (focus exact rfl); (focus (simp (disch := first | assumption | omega) only [go_sem, ↓reduceIte, Nat.reduceEqDiff, reduceCtorEq, Nat.reduceAdd]; with_reducible exact rfl)); (focus omega))
      | ((with_reducible apply arun_gyes); (focus exact rfl); (focus (simp only [go_sem, ↓reduceIte, Nat.reduceEqDiff, reduceCtorEq, Nat.reduceAdd]; with_reducible exact rfl)); (focus first | assumption | exact rfl))
      | ((with_reducible apply arun_gno); (focus exact rfl); (focus (simp only [go_sem, ↓reduceIte, Nat.reduceEqDiff, reduceCtorEq, Nat.reduceAdd]; with_reducible exact rfl)); (focus first | assumption | exact rfl))
      | ((with_reducible apply arun_guard); (focus exact rfl); (focus (simp only [go_sem, ↓reduceIte, Nat.reduceEqDiff, reduceCtorEq, Nat.reduceAdd]; with_reducible exact rfl)); (focus intro hb); rotate_left; (focus intro hb); rotate_right))
    all_goals (simp only [go_sem, ↓reduceIte, Nat.reduceEqDiff, reduceCtorEq, Nat.reduceAdd]; refine hK1 _ ?_; clear hK1 K1)
    refine awp_ret ?_
    subst h0
    rfl
  · have h0 : N ≠ 0 := by
      intro e; subst e; simp [limbs_zero] at hc
    clear hc
    refine awp_skip ?_
    refine hK _ ?_; clear hK K
    refine awp_seq_k fun K hK => ?_
    refine awp_region (Θ := Θ) (Γ := Γ) [0, 3] ΘOK ΓOK rfl ?_
    repeat' (first
      | (with_reducible refine arun_nil ?_)
      | ((with_reducible apply arun_step); (focus exact rfl); (focus (simp (disch := first | assumption | omega) only [go_sem, ↓reduceIte, Nat.reduceEqDiff, reduceCtorEq, Nat.reduceAdd]; with_reducible exact rfl)))
      | ((with_reducible apply arun_if); (focus exact rfl); (focus (simp (disch := first | assumption | omega) only [go_sem, ↓reduceIte, Nat.reduceEqDiff, reduceCtorEq, Nat.reduceAdd]; with_reducible exact rfl)); (focus omega))
      | ((with_reducible apply arun_ifn); (focus exact rfl); (focus (simp (disch := first | assumption | omega) only [go_sem, ↓reduceIte, Nat.reduceEqDiff, reduceCtorEq, Nat.reduceAdd]; with_reducible exact rfl)); (focus omega))
      | ((with_reducible apply arun_gyes); (focus exact rfl); (focus (simp only [go_sem, ↓reduceIte, Nat.reduceEqDiff, reduceCtorEq, Nat.reduceAdd]; with_reducible exact rfl)); (focus first | assumption | exact rfl))
      | ((with_reducible apply arun_gno); (focus exact rfl); (focus (simp only [go_sem, ↓reduceIte, Nat.reduceEqDiff, reduceCtorEq, Nat.reduceAdd]; with_reducible exact rfl)); (focus first | assumption | exact rfl))
      | ((with_reducible apply arun_guard); (focus exact rfl); (focus (simp only [go_sem, ↓reduceIte, Nat.reduceEqDiff, reduceCtorEq, Nat.reduceAdd]; with_reducible exact rfl)); (focus intro hb); rotate_left; (focus intro hb); rotate_right))
    all_goals (simp only [go_sem, ↓reduceIte, Nat.reduceEqDiff, reduceCtorEq, Nat.reduceAdd]; refine hK _ ?_; clear hK K)
    have hlen : (revText N).length ≤ 18000000 := by
      have h1 : N < 1000000000 ^ (2 * L.length) := by
        rw [← hN, Nat.pow_mul]
        exact Nat.lt_of_lt_of_le (nv_lt hL) (Nat.pow_le_pow_left (by decide) _)
      have := revText_length h1
      omega
    refine awp_seq_k fun K hK => ?_
    refine awp_block ?_
    refine awp_loop_st (ι := Nat × List Int) (fun p => [(0, .lst (ints .u32 (limbs p.1))), (3, .own 11)]) (fun p => [(11, ⟨5, 1, ints .u8 p.2, none⟩)]) (fun p => p.1) (fun p => (limbs p.1).length ≤ 1000000 ∧ p.2 ++ revText p.1 = revText N) (N, []) ⟨by simp only; omega, rfl⟩ (by simp [agree_cons, agree_nil, slook_cons]) (by simp [ints]) ?_
    rintro ⟨m, D⟩ ⟨h1, h2⟩
    simp only at h1 h2 ⊢
    have hmok := okL_limbs m
    refine awp_seq_k fun K1 hK1 => ?_
    refine awp_seq_k fun K2 hK2 => ?_
    refine awp_region (Θ := Θ) (Γ := Γ) [0, 3, 14] ΘOK ΓOK rfl ?_
    repeat' (first
      | (with_reducible refine arun_nil ?_)
      | ((with_reducible apply arun_step); (focus exact rfl); (focus (simp (disch := first | assumption | omega) only [go_sem, ↓reduceIte, Nat.reduceEqDiff, reduceCtorEq, Nat.reduceAdd]; with_reducible exact rfl)))
      | ((with_reducible apply arun_if); (focus exact rfl); (focus (simp (disch := first | assumption | omega) only [go_sem, ↓reduceIte, Nat.reduceEqDiff, reduceCtorEq, Nat.reduceAdd]; with_reducible exact rfl)); (focus omega))
      | ((with_reducible apply arun_ifn); (focus exact rfl); (focus (simp (disch := first | assumption | omega) only [go_sem, ↓reduceIte, Nat.reduceEqDiff, reduceCtorEq, Nat.reduceAdd]; with_reducible exact rfl)); (focus omega))
      | ((with_reducible apply arun_gyes); (focus exact rfl); (focus (simp only [go_sem, ↓reduceIte, Nat.reduceEqDiff, reduceCtorEq, Nat.reduceAdd]; with_reducible exact rfl)); (focus first | assumption | exact rfl))
      | ((with_reducible apply arun_gno); (focus exact rfl); (focus (simp only [go_sem, ↓reduceIte, Nat.reduceEqDiff, reduceCtorEq, Nat.reduceAdd]; with_reducible exact rfl)); (focus first | assumption | exact rfl))
      | ((with_reducible apply arun_guard); (focus exact rfl); (focus (simp only [go_sem, ↓reduceIte, Nat.reduceEqDiff, reduceCtorEq, Nat.reduceAdd]; with_reducible exact rfl)); (focus intro hb); rotate_left; (focus intro hb); rotate_right))
    all_goals (simp only [go_sem, ↓reduceIte, Nat.reduceEqDiff, reduceCtorEq, Nat.reduceAdd]; refine hK2 _ ?_; clear hK2 K2)
    apply awp_cond
    (focus (simp only [go_sem, ↓reduceIte, Nat.reduceEqDiff, reduceCtorEq, Nat.reduceAdd]; exact rfl))
    all_goals intro hc
    · have hm : m ≠ 0 := by
        intro e; subst e; simp [limbs_zero] at hc
      clear hc
      refine awp_skip ?_
      refine hK1 _ ?_; clear hK1 K1
      refine awp_block ?_
      refine awp_seq_k fun K1 hK1 => ?_
      refine awp_region (Θ := Θ) (Γ := Γ) [3, 4, 5] ΘOK ΓOK rfl ?_
      repeat' (first
        | (with_reducible refine arun_nil ?_)
        | ((with_reducible apply arun_step); (focus exact rfl); (focus (simp (disch := first | assumption | omega) only [go_sem, ↓reduceIte, Nat.reduceEqDiff, reduceCtorEq, Nat.reduceAdd, nv_limbs]; with_reducible exact rfl)))
        | ((with_reducible apply arun_if); (focus exact rfl); (focus (simp (disch := first | assumption | omega) only [go_sem, ↓reduceIte, Nat.reduceEqDiff, reduceCtorEq, Nat.reduceAdd, nv_limbs]; with_reducible exact rfl)); (focus omega))
        | ((with_reducible apply arun_ifn); (focus exact rfl); (focus (simp (disch := first | assumption | omega) only [go_sem, ↓reduceIte, Nat.reduceEqDiff, reduceCtorEq, Nat.reduceAdd, nv_limbs]; with_reducible exact rfl)); (focus omega))
        | ((with_reducible apply arun_gyes); (focus exact rfl); (focus (simp only [go_sem, ↓reduceIte, Nat.reduceEqDiff, reduceCtorEq, Nat.reduceAdd, nv_limbs]; with_reducible exact rfl)); (focus first | assumption | exact rfl))
        | ((with_reducible apply arun_gno); (focus exact rfl); (focus (simp only [go_sem, ↓reduceIte, Nat.reduceEqDiff, reduceCtorEq, Nat.reduceAdd, nv_limbs]; with_reducible exact rfl)); (focus first | assumption | exact rfl))
        | ((with_reducible apply arun_guard); (focus exact rfl); (focus (simp only [go_sem, ↓reduceIte, Nat.reduceEqDiff, reduceCtorEq, Nat.reduceAdd, nv_limbs]; with_reducible exact rfl)); (focus intro hb); rotate_left; (focus intro hb); rotate_right))
      all_goals (simp only [go_sem, ↓reduceIte, Nat.reduceEqDiff, reduceCtorEq, Nat.reduceAdd]; refine hK1 _ ?_; clear hK1 K1)
      rw [revText, if_neg hm] at h2
      have hr0 : (m : Int) % 1000000000 = ((m % 1000000000 : Nat) : Int) := by omega
      have hq0 : (1000000000 : Int).toNat = 1000000000 := rfl
      rw [hr0, hq0]
      generalize hqe : m / 1000000000 = q at *
      generalize hre : m % 1000000000 = r at *
      have hrl : r < 1000000000 := by omega
      have hqm : q < m := by omega
      have hql : (limbs q).length ≤ 1000000 := Nat.le_trans (limbs_length_mono (Nat.le_of_lt hqm)) h1
      have hqok := okL_limbs q
      refine awp_seq_k fun K1 hK1 => ?_
      refine awp_seq_k fun K2 hK2 => ?_
      refine awp_region (Θ := Θ) (Γ := Γ) [3, 4, 5, 20] ΘOK ΓOK rfl ?_
      repeat' (first
        | (with_reducible refine arun_nil ?_)
        | ((with_reducible apply arun_step); (focus exact rfl); (focus (simp (disch := first | assumption | omega) only [go_sem, ↓reduceIte, Nat.reduceEqDiff, reduceCtorEq, Nat.reduceAdd]; with_reducible exact rfl)))
        | ((with_reducible apply arun_if); (focus exact rfl); (focus (simp (disch := first | assumption | omega) only [go_sem, ↓reduceIte, Nat.reduceEqDiff, reduceCtorEq, Nat.reduceAdd]; with_reducible exact rfl)); (focus omega))
        | ((with_reducible apply arun_ifn); (focus exact rfl); (focus (simp (disch := first | assumption | omega) only [go_sem, ↓reduceIte, Nat.reduceEqDiff, reduceCtorEq, Nat.reduceAdd]; with_reducible exact rfl)); (focus omega))
        | ((with_reducible apply arun_gyes); (focus exact rfl); (focus (simp only [go_sem, ↓reduceIte, Nat.reduceEqDiff, reduceCtorEq, Nat.reduceAdd]; with_reducible exact rfl)); (focus first | assumption | exact rfl))
        | ((with_reducible apply arun_gno); (focus exact rfl); (focus (simp only [go_sem, ↓reduceIte, Nat.reduceEqDiff, reduceCtorEq, Nat.reduceAdd]; with_reducible exact rfl)); (focus first | assumption | exact rfl))
        | ((with_reducible apply arun_guard); (focus exact rfl); (focus (simp only [go_sem, ↓reduceIte, Nat.reduceEqDiff, reduceCtorEq, Nat.reduceAdd]; with_reducible exact rfl)); (focus intro hb); rotate_left; (focus intro hb); rotate_right))
      all_goals (simp only [go_sem, ↓reduceIte, Nat.reduceEqDiff, reduceCtorEq, Nat.reduceAdd]; refine hK2 _ ?_; clear hK2 K2)
      refine awp_block ?_
      refine awp_loop_st (ι := Nat × Nat × List Int) (fun p => [(3, .own 11), (4, .lst (ints .u32 (limbs q))), (5, vInt .u32 p.2.1), (20, vInt .i64 p.1)]) (fun p => [(11, ⟨5, 1, ints .u8 p.2.2, none⟩)]) (fun p => 9 - p.1) (fun p => p.1 ≤ 9 ∧ p.2.1 < 1000000000 ∧ p.2.2 ++ (lowDigits (9 - p.1) p.2.1 (decide (q ≠ 0)) ++ revText q) = revText N) (0, r, D) ⟨by simp, by simpa using hrl, by simpa using h2⟩ (by simp [agree_cons, agree_nil, slook_cons, vInt]) rfl ?_
      rintro ⟨j, s, E⟩ ⟨g1, g2, g3⟩
      simp only at g1 g2 g3 ⊢
      refine awp_seq_k fun K3 hK3 => ?_
      refine awp_region (Θ := Θ) (Γ := Γ) [3, 4, 5, 20, 21] ΘOK ΓOK rfl ?_
      repeat' (first
        | (with_reducible refine arun_nil ?_)
        | ((with_reducible apply arun_step); (focus exact rfl); (focus (simp (disch := first | assumption | omega) only [go_sem, ↓reduceIte, Nat.reduceEqDiff, reduceCtorEq, Nat.reduceAdd]; with_reducible exact rfl)))
        | ((with_reducible apply arun_if); (focus exact rfl); (focus (simp (disch := first | assumption | omega) only [go_sem, ↓reduceIte, Nat.reduceEqDiff, reduceCtorEq, Nat.reduceAdd]; with_reducible exact rfl)); (focus omega))
        | ((with_reducible apply arun_ifn); (focus exact rfl); (focus (simp (disch := first | assumption | omega) only [go_sem, ↓reduceIte, Nat.reduceEqDiff, reduceCtorEq, Nat.reduceAdd]; with_reducible exact rfl)); (focus omega))
        | ((with_reducible apply arun_gyes); (focus exact rfl); (focus (simp only [go_sem, ↓reduceIte, Nat.reduceEqDiff, reduceCtorEq, Nat.reduceAdd]; with_reducible exact rfl)); (focus first | assumption | exact rfl))
        | ((with_reducible apply arun_gno); (focus exact rfl); (focus (simp only [go_sem, ↓reduceIte, Nat.reduceEqDiff, reduceCtorEq, Nat.reduceAdd]; with_reducible exact rfl)); (focus first | assumption | exact rfl))
        | ((with_reducible apply arun_guard); (focus exact rfl); (focus (simp only [go_sem, ↓reduceIte, Nat.reduceEqDiff, reduceCtorEq, Nat.reduceAdd]; with_reducible exact rfl)); (focus intro hb); rotate_left; (focus intro hb); rotate_right))
      all_goals (simp only [go_sem, ↓reduceIte, Nat.reduceEqDiff, reduceCtorEq, Nat.reduceAdd]; refine hK3 _ ?_; clear hK3 K3)
      refine awp_seq_k fun K3 hK3 => ?_
      apply awp_cond
      (focus (simp only [go_sem, ↓reduceIte, Nat.reduceEqDiff, reduceCtorEq, Nat.reduceAdd]; exact rfl))
      all_goals intro hc
      · have hj : j < 9 := by simp at hc; omega
        clear hc
        refine awp_skip ?_
        refine hK3 _ ?_; clear hK3 K3
        refine awp_seq_k fun K3 hK3 => ?_
        refine awp_block ?_
        rw [show 9 - j = (9 - (j + 1)) + 1 by omega, lowDigits] at g3
        refine awp_seq_k fun K4 hK4 => ?_
        by_cases hz : s = 0 ∧ q = 0
        · obtain ⟨rfl, rfl⟩ := hz
          have hd : (((limbs 0).length : Int) == 0) = true := by simp [limbs_zero]
          have hd2 : (((0 : Nat) : Int) == 0) = true := rfl
          refine awp_seq_k fun K5 hK5 => ?_
          refine awp_region (Θ := Θ) (Γ := Γ) [3, 4, 28] ΘOK ΓOK rfl ?_
          repeat' (first
            | (with_reducible refine arun_nil ?_)
            | ((with_reducible apply arun_step); (focus exact rfl); (focus (simp (disch := first | assumption | omega) only [go_sem, ↓reduceIte, Nat.reduceEqDiff, reduceCtorEq, Nat.reduceAdd, hd, hd2]; with_reducible exact rfl)))
            | ((with_reducible apply arun_if); (focus exact rfl); (focus (simp (disch := first | assumption | omega) only [go_sem, ↓reduceIte, Nat.reduceEqDiff, reduceCtorEq, Nat.reduceAdd, hd, hd2]; with_reducible exact rfl)); (focus omega))
            | ((with_reducible apply arun_ifn); (focus exact rfl); (focus (simp (disch := first | assumption | omega) only [go_sem, ↓reduceIte, Nat.reduceEqDiff, reduceCtorEq, Nat.reduceAdd, hd, hd2]; with_reducible exact rfl)); (focus omega))
            | ((with_reducible apply arun_gyes); (focus exact rfl); (focus (simp only [go_sem, ↓reduceIte, Nat.reduceEqDiff, reduceCtorEq, Nat.reduceAdd, hd, hd2]; with_reducible exact rfl)); (focus first | assumption | exact rfl))
            | ((with_reducible apply arun_gno); (focus exact rfl); (focus (simp only [go_sem, ↓reduceIte, Nat.reduceEqDiff, reduceCtorEq, Nat.reduceAdd, hd, hd2]; with_reducible exact rfl)); (focus first | assumption | exact rfl))
            | ((with_reducible apply arun_guard); (focus exact rfl); (focus (simp only [go_sem, ↓reduceIte, Nat.reduceEqDiff, reduceCtorEq, Nat.reduceAdd, hd, hd2]; with_reducible exact rfl)); (focus intro hb); rotate_left; (focus intro hb); rotate_right))
          all_goals (simp only [go_sem, ↓reduceIte, Nat.reduceEqDiff, reduceCtorEq, Nat.reduceAdd]; refine hK5 _ ?_; clear hK5 K5)
          apply awp_cond
          (focus (simp only [go_sem, ↓reduceIte, Nat.reduceEqDiff, reduceCtorEq, Nat.reduceAdd]; exact rfl))
          all_goals intro hc
          · refine awp_exit ?_
            simp only [Nat.reduceEqDiff, ↓reduceIte]
            refine hK1 _ ?_
            clear hK1 hK3 hK4 K1 K3 K4
            refine awp_region (Θ := Θ) (Γ := Γ) [0, 3] ΘOK ΓOK rfl ?_
            repeat' (first
              | (with_reducible refine arun_nil ?_)
              | ((with_reducible apply arun_step); (focus exact rfl); (focus (simp (disch := first | assumption | omega) only [go_sem, ↓reduceIte, Nat.reduceEqDiff, reduceCtorEq, Nat.reduceAdd]; with_reducible exact rfl)))
              | ((with_reducible apply arun_if); (focus exact rfl); (focus (simp (disch := first | assumption | omega) only [go_sem, ↓reduceIte, Nat.reduceEqDiff, reduceCtorEq, Nat.reduceAdd]; with_reducible exact rfl)); (focus omega))
              | ((with_reducible apply arun_ifn); (focus exact rfl); (focus (simp (disch := first | assumption | omega) only [go_sem, ↓reduceIte, Nat.reduceEqDiff, reduceCtorEq, Nat.reduceAdd]; with_reducible exact rfl)); (focus omega))
              | ((with_reducible apply arun_gyes); (focus exact rfl); (focus (simp only [go_sem, ↓reduceIte, Nat.reduceEqDiff, reduceCtorEq, Nat.reduceAdd]; with_reducible exact rfl)); (focus first | assumption | exact rfl))
              | ((with_reducible apply arun_gno); (focus exact rfl); (focus (simp only [go_sem, ↓reduceIte, Nat.reduceEqDiff, reduceCtorEq, Nat.reduceAdd]; with_reducible exact rfl)); (focus first | assumption | exact rfl))
              | ((with_reducible apply arun_guard); (focus exact rfl); (focus (simp only [go_sem, ↓reduceIte, Nat.reduceEqDiff, reduceCtorEq, Nat.reduceAdd]; with_reducible exact rfl)); (focus intro hb); rotate_left; (focus intro hb); rotate_right))
            all_goals (simp only [go_sem, ↓reduceIte, Nat.reduceEqDiff, reduceCtorEq, Nat.reduceAdd])
            refine ⟨(0, E), ⟨by simp [limbs_zero], by simpa using g3⟩, ?_, rfl, by simp only; omega⟩
            first | (simp [agree_cons, agree_nil, slook_cons, vInt]; done) | (simp [agree_cons, agree_nil, slook_cons, vInt]; omega) | (simp [agree_cons, agree_nil, slook_cons, vInt]; grind)
          · cases hc
        · rw [if_neg (by simp; omega)] at g3
          have hfin : ∀ σ : St, agree [(3, .own 11), (4, .lst (ints .u32 (limbs q))), (5, vInt .u32 s), (20, vInt .i64 j)] σ.t → σ.h = hlook [(11, ⟨5, 1, ints .u8 E, none⟩)] → K4 σ := by
            intro σ hag hh
            refine hK4 σ ?_
            refine awp_forget _ hag ?_
            rw [hh]
            have hE : E.length ≤ 18000000 := by
              have := congrArg List.length g3
              simp only [List.length_append] at this
              omega
            refine awp_seq_k fun K5 hK5 => ?_
            refine awp_region (Θ := Θ) (Γ := Γ) [3, 4, 5, 20] ΘOK ΓOK rfl ?_
            repeat' (first
              | (with_reducible refine arun_nil ?_)
              | ((with_reducible apply arun_step); (focus exact rfl); (focus (simp (disch := first | assumption | omega) only [go_sem, ↓reduceIte, Nat.reduceEqDiff, reduceCtorEq, Nat.reduceAdd]; with_reducible exact rfl)))
              | ((with_reducible apply arun_if); (focus exact rfl); (focus (simp (disch := first | assumption | omega) only [go_sem, ↓reduceIte, Nat.reduceEqDiff, reduceCtorEq, Nat.reduceAdd]; with_reducible exact rfl)); (focus omega))
              | ((with_reducible apply arun_ifn); (focus exact rfl); (focus (simp (disch := first | assumption | omega) only [go_sem, ↓reduceIte, Nat.reduceEqDiff, reduceCtorEq, Nat.reduceAdd]; with_reducible exact rfl)); (focus omega))
              | ((with_reducible apply arun_gyes); (focus exact rfl); (focus (simp only [go_sem, ↓reduceIte, Nat.reduceEqDiff, reduceCtorEq, Nat.reduceAdd]; with_reducible exact rfl)); (focus first | assumption | exact rfl))
              | ((with_reducible apply arun_gno); (focus exact rfl); (focus (simp only [go_sem, ↓reduceIte, Nat.reduceEqDiff, reduceCtorEq, Nat.reduceAdd]; with_reducible exact rfl)); (focus first | assumption | exact rfl))
              | ((with_reducible apply arun_guard); (focus exact rfl); (focus (simp only [go_sem, ↓reduceIte, Nat.reduceEqDiff, reduceCtorEq, Nat.reduceAdd]; with_reducible exact rfl)); (focus intro hb); rotate_left; (focus intro hb); rotate_right))
            all_goals (simp only [go_sem, ↓reduceIte, Nat.reduceEqDiff, reduceCtorEq, Nat.reduceAdd]; refine hK5 _ ?_; clear hK5 K5)
            refine awp_region (Θ := Θ) (Γ := Γ) [3, 4, 5, 20] ΘOK ΓOK rfl ?_
            repeat' (first
              | (with_reducible refine arun_nil ?_)
              | ((with_reducible apply arun_step); (focus exact rfl); (focus (simp (disch := first | assumption | omega) only [go_sem, ↓reduceIte, Nat.reduceEqDiff, reduceCtorEq, Nat.reduceAdd]; with_reducible exact rfl)))
              | ((with_reducible apply arun_if); (focus exact rfl); (focus (simp (disch := first | assumption | omega) only [go_sem, ↓reduceIte, Nat.reduceEqDiff, reduceCtorEq, Nat.reduceAdd]; with_reducible exact rfl)); (focus omega))
              | ((with_reducible apply arun_ifn); (focus exact rfl); (focus (simp (disch := first | assumption | omega) only [go_sem, ↓reduceIte, Nat.reduceEqDiff, reduceCtorEq, Nat.reduceAdd]; with_reducible exact rfl)); (focus omega))
              | ((with_reducible apply arun_gyes); (focus exact rfl); (focus (simp only [go_sem, ↓reduceIte, Nat.reduceEqDiff, reduceCtorEq, Nat.reduceAdd]; with_reducible exact rfl)); (focus first | assumption | exact rfl))
              | ((with_reducible apply arun_gno); (focus exact rfl); (focus (simp only [go_sem, ↓reduceIte, Nat.reduceEqDiff, reduceCtorEq, Nat.reduceAdd]; with_reducible exact rfl)); (focus first | assumption | exact rfl))
              | ((with_reducible apply arun_guard); (focus exact rfl); (focus (simp only [go_sem, ↓reduceIte, Nat.reduceEqDiff, reduceCtorEq, Nat.reduceAdd]; with_reducible exact rfl)); (focus intro hb); rotate_left; (focus intro hb); rotate_right))
            all_goals (simp only [go_sem, ↓reduceIte, Nat.reduceEqDiff, reduceCtorEq, Nat.reduceAdd])
            refine hK3 _ ?_
            refine awp_region (Θ := Θ) (Γ := Γ) [3, 4, 5, 20] ΘOK ΓOK rfl ?_
            repeat' (first
              | (with_reducible refine arun_nil ?_)
              | ((with_reducible apply arun_step); (focus exact rfl); (focus (simp (disch := first | assumption | omega) only [go_sem, ↓reduceIte, Nat.reduceEqDiff, reduceCtorEq, Nat.reduceAdd]; with_reducible exact rfl)))
              | ((with_reducible apply arun_if); (focus exact rfl); (focus (simp (disch := first | assumption | omega) only [go_sem, ↓reduceIte, Nat.reduceEqDiff, reduceCtorEq, Nat.reduceAdd]; with_reducible exact rfl)); (focus omega))
              | ((with_reducible apply arun_ifn); (focus exact rfl); (focus (simp (disch := first | assumption | omega) only [go_sem, ↓reduceIte, Nat.reduceEqDiff, reduceCtorEq, Nat.reduceAdd]; with_reducible exact rfl)); (focus omega))
              | ((with_reducible apply arun_gyes); (focus exact rfl); (focus (simp only [go_sem, ↓reduceIte, Nat.reduceEqDiff, reduceCtorEq, Nat.reduceAdd]; with_reducible exact rfl)); (focus first | assumption | exact rfl))
              | ((with_reducible apply arun_gno); (focus exact rfl); (focus (simp only [go_sem, ↓reduceIte, Nat.reduceEqDiff, reduceCtorEq, Nat.reduceAdd]; with_reducible exact rfl)); (focus first | assumption | exact rfl))
              | ((with_reducible apply arun_guard); (focus exact rfl); (focus (simp only [go_sem, ↓reduceIte, Nat.reduceEqDiff, reduceCtorEq, Nat.reduceAdd]; with_reducible exact rfl)); (focus intro hb); rotate_left; (focus intro hb); rotate_right))
            all_goals (simp only [go_sem, ↓reduceIte, Nat.reduceEqDiff, reduceCtorEq, Nat.reduceAdd])
            refine ⟨(j + 1, s / 10, E ++ [dig (s % 10)]), ⟨by simp only; omega, by simp only; omega, by simpa using g3⟩, ?_, ?_, by simp only; omega⟩
            ·
              first | (simp [agree_cons, agree_nil, slook_cons, vInt]; done) | (simp [agree_cons, agree_nil, slook_cons, vInt]; omega) | (simp [agree_cons, agree_nil, slook_cons, vInt]; grind)
            · have e : (48 + (s : Int) % 10) % 4294967296 % 256 = dig (s % 10) := by unfold dig; omega
              rw [e]
          by_cases hq : q = 0
          · have hd : (((limbs q).length : Int) == 0) = true := by simp [hq, limbs_zero]
            have hd2 : ((s : Int) == 0) = false := by simp; omega
            refine awp_seq_k fun K5 hK5 => ?_
            refine awp_region (Θ := Θ) (Γ := Γ) [3, 4, 5, 20, 28] ΘOK ΓOK rfl ?_
            repeat' (first
              | (with_reducible refine arun_nil ?_)
              | ((with_reducible apply arun_step); (focus exact rfl); (focus (simp (disch := first | assumption | omega) only [go_sem, ↓reduceIte, Nat.reduceEqDiff, reduceCtorEq, Nat.reduceAdd, hd, hd2]; with_reducible exact rfl)))
              | ((with_reducible apply arun_if); (focus exact rfl); (focus (simp (disch := first | assumption | omega) only [go_sem, ↓reduceIte, Nat.reduceEqDiff, reduceCtorEq, Nat.reduceAdd, hd, hd2]; with_reducible exact rfl)); (focus omega))
              | ((with_reducible apply arun_ifn); (focus exact rfl); (focus (simp (disch := first | assumption | omega) only [go_sem, ↓reduceIte, Nat.reduceEqDiff, reduceCtorEq, Nat.reduceAdd, hd, hd2]; with_reducible exact rfl)); (focus omega))
              | ((with_reducible apply arun_gyes); (focus exact rfl); (focus (simp only [go_sem, ↓reduceIte, Nat.reduceEqDiff, reduceCtorEq, Nat.reduceAdd, hd, hd2]; with_reducible exact rfl)); (focus first | assumption | exact rfl))
              | ((with_reducible apply arun_gno); (focus exact rfl); (focus (simp only [go_sem, ↓reduceIte, Nat.reduceEqDiff, reduceCtorEq, Nat.reduceAdd, hd, hd2]; with_reducible exact rfl)); (focus first | assumption | exact rfl))
              | ((with_reducible apply arun_guard); (focus exact rfl); (focus (simp only [go_sem, ↓reduceIte, Nat.reduceEqDiff, reduceCtorEq, Nat.reduceAdd, hd, hd2]; with_reducible exact rfl)); (focus intro hb); rotate_left; (focus intro hb); rotate_right))
            all_goals (simp only [go_sem, ↓reduceIte, Nat.reduceEqDiff, reduceCtorEq, Nat.reduceAdd]; refine hK5 _ ?_; clear hK5 K5)
            apply awp_cond
            (focus (simp only [go_sem, ↓reduceIte, Nat.reduceEqDiff, reduceCtorEq, Nat.reduceAdd]; exact rfl))
            all_goals intro hc
            · cases hc
            · refine awp_skip ?_
              refine hfin _ ?_ rfl
              first | (simp [agree_cons, agree_nil, slook_cons, vInt]; done) | (simp [agree_cons, agree_nil, slook_cons, vInt]; omega) | (simp [agree_cons, agree_nil, slook_cons, vInt]; grind)
          · have hd : (((limbs q).length : Int) == 0) = false := by simp [limbs_eq_nil, hq]
            refine awp_seq_k fun K5 hK5 => ?_
            refine awp_region (Θ := Θ) (Γ := Γ) [3, 4, 5, 20, 28] ΘOK ΓOK rfl ?_
            repeat' (first
              | (with_reducible refine arun_nil ?_)
              | ((with_reducible apply arun_step); (focus exact rfl); (focus (simp (disch := first | assumption | omega) only [go_sem, ↓reduceIte, Nat.reduceEqDiff, reduceCtorEq, Nat.reduceAdd, hd]; with_reducible exact rfl)))
              | ((with_reducible apply arun_if); (focus exact rfl); (focus (simp (disch := first | assumption | omega) only [go_sem, ↓reduceIte, Nat.reduceEqDiff, reduceCtorEq, Nat.reduceAdd, hd]; with_reducible exact rfl)); (focus omega))
              | ((with_reducible apply arun_ifn); (focus exact rfl); (focus (simp (disch := first | assumption | omega) only [go_sem, ↓reduceIte, Nat.reduceEqDiff, reduceCtorEq, Nat.reduceAdd, hd]; with_reducible exact rfl)); (focus omega))
              | ((with_reducible apply arun_gyes); (focus exact rfl); (focus (simp only [go_sem, ↓reduceIte, Nat.reduceEqDiff, reduceCtorEq, Nat.reduceAdd, hd]; with_reducible exact rfl)); (focus first | assumption | exact rfl))
              | ((with_reducible apply arun_gno); (focus exact rfl); (focus (simp only [go_sem, ↓reduceIte, Nat.reduceEqDiff, reduceCtorEq, Nat.reduceAdd, hd]; with_reducible exact rfl)); (focus first | assumption | exact rfl))
              | ((with_reducible apply arun_guard); (focus exact rfl); (focus (simp only [go_sem, ↓reduceIte, Nat.reduceEqDiff, reduceCtorEq, Nat.reduceAdd, hd]; with_reducible exact rfl)); (focus intro hb); rotate_left; (focus intro hb); rotate_right))
            all_goals (simp only [go_sem, ↓reduceIte, Nat.reduceEqDiff, reduceCtorEq, Nat.reduceAdd]; refine hK5 _ ?_; clear hK5 K5)
            apply awp_cond
            (focus (simp only [go_sem, ↓reduceIte, Nat.reduceEqDiff, reduceCtorEq, Nat.reduceAdd]; exact rfl))
            all_goals intro hc
            · cases hc
            · refine awp_skip ?_
              refine hfin _ ?_ rfl
              first | (simp [agree_cons, agree_nil, slook_cons, vInt]; done) | (simp [agree_cons, agree_nil, slook_cons, vInt]; omega) | (simp [agree_cons, agree_nil, slook_cons, vInt]; grind)
      · refine awp_exit ?_
        have hj : j = 9 := by simp at hc; omega
        subst hj
        simp only [Nat.reduceEqDiff, ↓reduceIte]
        refine hK1 _ ?_
        clear hK1 hK3 K1 K3
        rw [Nat.sub_self, lowDigits, List.nil_append] at g3
        refine awp_region (Θ := Θ) (Γ := Γ) [0, 3] ΘOK ΓOK rfl ?_
        repeat' (first
          | (with_reducible refine arun_nil ?_)
          | ((with_reducible apply arun_step); (focus exact rfl); (focus (simp (disch := first | assumption | omega) only [go_sem, ↓reduceIte, Nat.reduceEqDiff, reduceCtorEq, Nat.reduceAdd]; with_reducible exact rfl)))
          | ((with_reducible apply arun_if); (focus exact rfl); (focus (simp (disch := first | assumption | omega) only [go_sem, ↓reduceIte, Nat.reduceEqDiff, reduceCtorEq, Nat.reduceAdd]; with_reducible exact rfl)); (focus omega))
          | ((with_reducible apply arun_ifn); (focus exact rfl); (focus (simp (disch := first | assumption | omega) only [go_sem, ↓reduceIte, Nat.reduceEqDiff, reduceCtorEq, Nat.reduceAdd]; with_reducible exact rfl)); (focus omega))
          | ((with_reducible apply arun_gyes); (focus exact rfl); (focus (simp only [go_sem, ↓reduceIte, Nat.reduceEqDiff, reduceCtorEq, Nat.reduceAdd]; with_reducible exact rfl)); (focus first | assumption | exact rfl))
          | ((with_reducible apply arun_gno); (focus exact rfl); (focus (simp only [go_sem, ↓reduceIte, Nat.reduceEqDiff, reduceCtorEq, Nat.reduceAdd]; with_reducible exact rfl)); (focus first | assumption | exact rfl))
          | ((with_reducible apply arun_guard); (focus exact rfl); (focus (simp only [go_sem, ↓reduceIte, Nat.reduceEqDiff, reduceCtorEq, Nat.reduceAdd]; with_reducible exact rfl)); (focus intro hb); rotate_left; (focus intro hb); rotate_right))
        all_goals (simp only [go_sem, ↓reduceIte, Nat.reduceEqDiff, reduceCtorEq, Nat.reduceAdd])
        refine ⟨(q, E), ⟨hql, g3⟩, ?_, rfl, hqm⟩
        first | (simp [agree_cons, agree_nil, slook_cons, vInt]; done) | (simp [agree_cons, agree_nil, slook_cons, vInt]; omega) | (simp [agree_cons, agree_nil, slook_cons, vInt]; grind)
    · have hm : m = 0 := by
        rw [← limbs_eq_nil]; apply List.eq_nil_of_length_eq_zero
        simpa using hc
      subst hm
      refine awp_exit ?_
      rw [if_pos rfl]
      refine hK _ ?_
      clear hK hK1 K K1
      have hD : D = revText N := by
        rw [revText, if_pos rfl, List.append_nil] at h2
        exact h2
      have hDl : D.length ≤ 9223372036854775807 := by rw [hD]; omega
      refine awp_seq_k fun K hK => ?_
      refine awp_region (Θ := Θ) (Γ := Γ) [3] ΘOK ΓOK rfl ?_
      repeat' (first
        | (with_reducible refine arun_nil ?_)
        | ((with_reducible apply arun_step); (focus exact rfl); (focus (simp (disch := first | assumption | omega) only [go_sem, ↓reduceIte, Nat.reduceEqDiff, reduceCtorEq, Nat.reduceAdd]; with_reducible exact rfl)))
        | ((with_reducible apply arun_if); (focus exact rfl); (focus (simp (disch := first | assumption | omega) only [go_sem, ↓reduceIte, Nat.reduceEqDiff, reduceCtorEq, Nat.reduceAdd]; with_reducible exact rfl)); (focus omega))
        | ((with_reducible apply arun_ifn); (focus exact rfl); (focus (simp (disch := first | assumption | omega) only [go_sem, ↓reduceIte, Nat.reduceEqDiff, reduceCtorEq, Nat.reduceAdd]; with_reducible exact rfl)); (focus omega))
        | ((with_reducible apply arun_gyes); (focus exact rfl); (focus (simp only [go_sem, ↓reduceIte, Nat.reduceEqDiff, reduceCtorEq, Nat.reduceAdd]; with_reducible exact rfl)); (focus first | assumption | exact rfl))
        | ((with_reducible apply arun_gno); (focus exact rfl); (focus (simp only [go_sem, ↓reduceIte, Nat.reduceEqDiff, reduceCtorEq, Nat.reduceAdd]; with_reducible exact rfl)); (focus first | assumption | exact rfl))
        | ((with_reducible apply arun_guard); (focus exact rfl); (focus (simp only [go_sem, ↓reduceIte, Nat.reduceEqDiff, reduceCtorEq, Nat.reduceAdd]; with_reducible exact rfl)); (focus intro hb); rotate_left; (focus intro hb); rotate_right))
      all_goals (simp only [go_sem, ↓reduceIte, Nat.reduceEqDiff, reduceCtorEq, Nat.reduceAdd]; refine hK _ ?_; clear hK K)
      refine awp_seq_k fun K hK => ?_
      refine awp_region (Θ := Θ) (Γ := Γ) [2] ΘOK ΓOK rfl ?_
      repeat' (first
        | (with_reducible refine arun_nil ?_)
        | ((with_reducible apply arun_step); (focus exact rfl); (focus (simp (disch := first | assumption | omega) only [go_sem, ↓reduceIte, Nat.reduceEqDiff, reduceCtorEq, Nat.reduceAdd]; with_reducible exact rfl)))
        | ((with_reducible apply arun_if); (focus exact rfl); (focus (simp (disch := first | assumption | omega) only [go_sem, ↓reduceIte, Nat.reduceEqDiff, reduceCtorEq, Nat.reduceAdd]; with_reducible exact rfl)); (focus omega))
        | ((with_reducible apply arun_ifn); (focus exact rfl); (focus (simp (disch := first | assumption | omega) only [go_sem, ↓reduceIte, Nat.reduceEqDiff, reduceCtorEq, Nat.reduceAdd]; with_reducible exact rfl)); (focus omega))
        | ((with_reducible apply arun_gyes); (focus exact rfl); (focus (simp only [go_sem, ↓reduceIte, Nat.reduceEqDiff, reduceCtorEq, Nat.reduceAdd]; with_reducible exact rfl)); (focus first | assumption | exact rfl))
        | ((with_reducible apply arun_gno); (focus exact rfl); (focus (simp only [go_sem, ↓reduceIte, Nat.reduceEqDiff, reduceCtorEq, Nat.reduceAdd]; with_reducible exact rfl)); (focus first | assumption | exact rfl))
        | ((with_reducible apply arun_guard); (focus exact rfl); (focus (simp only [go_sem, ↓reduceIte, Nat.reduceEqDiff, reduceCtorEq, Nat.reduceAdd]; with_reducible exact rfl)); (focus intro hb); rotate_left; (focus intro hb); rotate_right))
      all_goals (simp only [go_sem, ↓reduceIte, Nat.reduceEqDiff, reduceCtorEq, Nat.reduceAdd]; refine hK _ ?_; clear hK K)
      refine awp_ret ?_
      simp only [go_sem, ↓reduceIte, Nat.reduceEqDiff, reduceCtorEq, Nat.reduceAdd, Res, textOf, h0, hD]
end Text
end Go.Proofs
