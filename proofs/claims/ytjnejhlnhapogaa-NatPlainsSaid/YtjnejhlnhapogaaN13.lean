/- Contracts of functions that the law reaches: what they compute. -/
import Derived.Test.YtjnejhlnhapogaaN12
namespace Go.Proofs
open Go.Abs Go.NatMath
set_option linter.unusedVariables false
set_option linter.unusedSimpArgs false

theorem rsub_step {A C O : List Int} (hA : okL A) (hC : okL C) {i : Nat} {b : Int} (hl : O.length = i) (hb : 0 ≤ b ∧ b ≤ 1) (h : iv O - W i * b = iv (A.take i) - iv (C.take i)) :
    iv (O ++ [(A.getD i 0 - b - C.getD i 0) % 4294967296]) - W (i + 1) * (if A.getD i 0 - b - C.getD i 0 < 0 then 1 else 0) = iv (A.take (i + 1)) - iv (C.take (i + 1)) := by
  have hx := okL_get hA i
  have hy := okL_get hC i
  rw [iv_snoc (by omega), iv_take_succ hA, iv_take_succ hC, W_succ, hl]
  have hd : A.getD i 0 - b - C.getD i 0 = (A.getD i 0 - b - C.getD i 0) % 4294967296 - 4294967296 * (if A.getD i 0 - b - C.getD i 0 < 0 then 1 else 0) := by
    split <;> omega
  generalize (if A.getD i 0 - b - C.getD i 0 < 0 then (1 : Int) else 0) = q at *
  generalize (A.getD i 0 - b - C.getD i 0) % 4294967296 = m at *
  generalize A.getD i 0 = x at *
  generalize C.getD i 0 = y at *
  generalize W i = w at *
  generalize iv O = o at *
  generalize iv (A.take i) = a at *
  generalize iv (C.take i) = c at *
  grind

/-! ### the document's Sub -/
namespace RSub
def Γ : FuncId → Abs.Spec
  | 26 => .pure spPlain
  | 28 => .pure spCmp
  | _ => .none
theorem ΓOK : ∀ f, SpecOK Try.prog f (Γ f) := by
  intro f
  unfold Γ
  split
  · exact ⟨⟨_, Try.func26, by decide +kernel, rfl⟩, RPlain.ok⟩
  · exact ⟨⟨_, Try.func28, by decide +kernel, rfl⟩, RCmp.ok⟩
  · trivial
attribute [local go_sem] Γ
theorem ok : PureOK Try.prog 45 spSub := by
  refine pure_of_awp (n := 49) [4, 5] Try.func45 rfl rfl rfl ?_
  intro M0 w0 args r h
  obtain ⟨A, C, rfl, hA, hAl, hC, hCl, hr⟩ := sp2_some h
  cases hr
  clear h
  refine ⟨by simp, ?_⟩
  refine awp_seq_k fun K hK => ?_
  refine awp_region (Θ := Θ) (Γ := Γ) [0, 1, 4] ΘOK ΓOK rfl ?_
  repeat' (first
    | (with_reducible refine arun_nil ?_)
    | ((with_reducible apply arun_step); (focus exact rfl); (focus (simp (disch := first | assumption | omega) only [go_sem, ↓reduceIte, Nat.reduceEqDiff, reduceCtorEq, Nat.reduceAdd]; with_reducible exact rfl)))
    | ((with_reducible apply arun_if); (focus exact rfl); (focus (simp (disch := first | assumption | omega) only [go_sem, ↓reduceIte, Nat.reduceEqDiff, reduceCtorEq, Nat.reduceAdd]; with_reducible exact rfl)); (focus omega))
    | ((with_reducible apply arun_ifn); (focus exact rfl); (focus (simp (disch := first | assumption | omega) only [go_sem, ↓reduceIte, Nat.reduceEqDiff, reduceCtorEq, Nat.reduceAdd]; with_reducible exact rfl)); (focus omega))
    | ((with_reducible apply arun_gyes); (focus exact rfl); (focus (simp only [go_sem, ↓reduceIte, Nat.reduceEqDiff, reduceCtorEq, Nat.reduceAdd]; with_reducible exact rfl)); (focus first | assumption | exact rfl))
    | ((with_reducible apply arun_gno); (focus exact rfl); (focus (simp only [go_sem, ↓reduceIte, Nat.reduceEqDiff, reduceCtorEq, Nat.reduceAdd]; with_reducible exact rfl)); (focus first | assumption | exact rfl))
    | ((with_reducible apply arun_guard); (focus exact rfl); (focus (simp only [go_sem, ↓reduceIte, Nat.reduceEqDiff, reduceCtorEq, Nat.reduceAdd]; with_reducible exact rfl)); (focus intro hb); rotate_left; (focus intro hb); rotate_right))
  all_goals (simp only [go_sem, ↓reduceIte, Nat.reduceEqDiff, reduceCtorEq, Nat.reduceAdd]; refine hK _ ?_; clear hK K)
  refine awp_seq_k fun K hK => ?_
  have hcmp : decide (cmpN (nv A) (nv C) < 0) = decide (nv A < nv C) := by unfold cmpN; split <;> simp <;> omega
  refine awp_seq_k fun K1 hK1 => ?_
  refine awp_region (Θ := Θ) (Γ := Γ) [0, 1, 4, 13] ΘOK ΓOK rfl ?_
  repeat' (first
    | (with_reducible refine arun_nil ?_)
    | ((with_reducible apply arun_step); (focus exact rfl); (focus (simp (disch := first | assumption | omega) only [go_sem, ↓reduceIte, Nat.reduceEqDiff, reduceCtorEq, Nat.reduceAdd, hcmp]; with_reducible exact rfl)))
    | ((with_reducible apply arun_if); (focus exact rfl); (focus (simp (disch := first | assumption | omega) only [go_sem, ↓reduceIte, Nat.reduceEqDiff, reduceCtorEq, Nat.reduceAdd, hcmp]; with_reducible exact rfl)); (focus omega))
    | ((with_reducible apply arun_ifn); (focus exact rfl); (focus (simp (disch := first | assumption | omega) only [go_sem, ↓reduceIte, Nat.reduceEqDiff, reduceCtorEq, Nat.reduceAdd, hcmp]; with_reducible exact rfl)); (focus omega))
    | ((with_reducible apply arun_gyes); (focus exact rfl); (focus (simp only [go_sem, ↓reduceIte, Nat.reduceEqDiff, reduceCtorEq, Nat.reduceAdd, hcmp]; with_reducible exact rfl)); (focus first | assumption | exact rfl))
    | ((with_reducible apply arun_gno); (focus exact rfl); (focus (simp only [go_sem, ↓reduceIte, Nat.reduceEqDiff, reduceCtorEq, Nat.reduceAdd, hcmp]; with_reducible exact rfl)); (focus first | assumption | exact rfl))
    | ((with_reducible apply arun_guard); (focus exact rfl); (focus (simp only [go_sem, ↓reduceIte, Nat.reduceEqDiff, reduceCtorEq, Nat.reduceAdd, hcmp]; with_reducible exact rfl)); (focus intro hb); rotate_left; (focus intro hb); rotate_right))
  all_goals (simp only [go_sem, ↓reduceIte, Nat.reduceEqDiff, reduceCtorEq, Nat.reduceAdd]; refine hK1 _ ?_; clear hK1 K1)
  apply awp_cond
  (focus (simp only [go_sem, ↓reduceIte, Nat.reduceEqDiff, reduceCtorEq, Nat.reduceAdd]; exact rfl))
  all_goals intro hc
  · have hlt : nv A < nv C := by simpa using hc
    have e1 : nv A - nv C = 0 := by omega
    have e2 : decide (nv C ≤ nv A) = false := by simp; omega
    refine awp_seq_k fun K1 hK1 => ?_
    refine awp_region (Θ := Θ) (Γ := Γ) [4, 5] ΘOK ΓOK rfl ?_
    repeat' (first
      | (with_reducible refine arun_nil ?_)
      | ((with_reducible apply arun_step); (focus exact rfl); (focus (simp (disch := first | assumption | omega) only [go_sem, ↓reduceIte, Nat.reduceEqDiff, reduceCtorEq, Nat.reduceAdd]; with_reducible exact rfl)))
      | ((with_reducible apply arun_if); (focus exact rfl); (focus (simp (disch := first | assumption | omega) only [go_sem, ↓reduceIte, Nat.reduceEqDiff, reduceCtorEq, Nat.reduceAdd]; with_reducible exact rfl)); (focus omega))
      | ((with_reducible apply arun_ifn); (focus exact rfl); (focus (simp (disch := first | assumption | omega) only [go_sem, ↓reduceIte, Nat.reduceEqDiff, reduceCtorEq, Nat.reduceAdd]; with_reducible exact rfl)); (focus omega))
      | ((with_reducible apply arun_gyes); (focus exact rfl); (focus (simp only [go_sem, ↓reduceIte, Nat.reduceEqDiff, reduceCtorEq, Nat.reduceAdd]; with_reducible exact rfl)); (focus first | assumption | exact rfl))
      | ((with_reducible apply arun_gno); (focus exact rfl); (focus (simp only [go_sem, ↓reduceIte, Nat.reduceEqDiff, reduceCtorEq, Nat.reduceAdd]; with_reducible exact rfl)); (focus first | assumption | exact rfl))
      | ((with_reducible apply arun_guard); (focus exact rfl); (focus (simp only [go_sem, ↓reduceIte, Nat.reduceEqDiff, reduceCtorEq, Nat.reduceAdd]; with_reducible exact rfl)); (focus intro hb); rotate_left; (focus intro hb); rotate_right))
    all_goals (simp only [go_sem, ↓reduceIte, Nat.reduceEqDiff, reduceCtorEq, Nat.reduceAdd]; refine hK1 _ ?_; clear hK1 K1)
    refine awp_ret ?_
    simp only [go_sem, ↓reduceIte, Nat.reduceEqDiff, reduceCtorEq, Nat.reduceAdd, Res, rSub, e1, e2, limbs_zero]
    rfl
  · have hle : nv C ≤ nv A := by simp at hc; omega
    clear hc hcmp
    refine awp_skip ?_
    refine hK _ ?_; clear hK K
    refine awp_seq_k fun K hK => ?_
    refine awp_region (Θ := Θ) (Γ := Γ) [0, 1, 6] ΘOK ΓOK rfl ?_
    repeat' (first
      | (with_reducible refine arun_nil ?_)
      | ((with_reducible apply arun_step); (focus exact rfl); (focus (simp (disch := first | assumption | omega) only [go_sem, ↓reduceIte, Nat.reduceEqDiff, reduceCtorEq, Nat.reduceAdd]; with_reducible exact rfl)))
      | ((with_reducible apply arun_if); (focus exact rfl); (focus (simp (disch := first | assumption | omega) only [go_sem, ↓reduceIte, Nat.reduceEqDiff, reduceCtorEq, Nat.reduceAdd]; with_reducible exact rfl)); (focus omega))
      | ((with_reducible apply arun_ifn); (focus exact rfl); (focus (simp (disch := first | assumption | omega) only [go_sem, ↓reduceIte, Nat.reduceEqDiff, reduceCtorEq, Nat.reduceAdd]; with_reducible exact rfl)); (focus omega))
      | ((with_reducible apply arun_gyes); (focus exact rfl); (focus (simp only [go_sem, ↓reduceIte, Nat.reduceEqDiff, reduceCtorEq, Nat.reduceAdd]; with_reducible exact rfl)); (focus first | assumption | exact rfl))
      | ((with_reducible apply arun_gno); (focus exact rfl); (focus (simp only [go_sem, ↓reduceIte, Nat.reduceEqDiff, reduceCtorEq, Nat.reduceAdd]; with_reducible exact rfl)); (focus first | assumption | exact rfl))
      | ((with_reducible apply arun_guard); (focus exact rfl); (focus (simp only [go_sem, ↓reduceIte, Nat.reduceEqDiff, reduceCtorEq, Nat.reduceAdd]; with_reducible exact rfl)); (focus intro hb); rotate_left; (focus intro hb); rotate_right))
    all_goals (simp only [go_sem, ↓reduceIte, Nat.reduceEqDiff, reduceCtorEq, Nat.reduceAdd]; refine hK _ ?_; clear hK K)
    refine awp_seq_k fun K hK => ?_
    refine awp_region (Θ := Θ) (Γ := Γ) [0, 1, 6, 7] ΘOK ΓOK rfl ?_
    repeat' (first
      | (with_reducible refine arun_nil ?_)
      | ((with_reducible apply arun_step); (focus exact rfl); (focus (simp (disch := first | assumption | omega) only [go_sem, ↓reduceIte, Nat.reduceEqDiff, reduceCtorEq, Nat.reduceAdd]; with_reducible exact rfl)))
      | ((with_reducible apply arun_if); (focus exact rfl); (focus (simp (disch := first | assumption | omega) only [go_sem, ↓reduceIte, Nat.reduceEqDiff, reduceCtorEq, Nat.reduceAdd]; with_reducible exact rfl)); (focus omega))
      | ((with_reducible apply arun_ifn); (focus exact rfl); (focus (simp (disch := first | assumption | omega) only [go_sem, ↓reduceIte, Nat.reduceEqDiff, reduceCtorEq, Nat.reduceAdd]; with_reducible exact rfl)); (focus omega))
      | ((with_reducible apply arun_gyes); (focus exact rfl); (focus (simp only [go_sem, ↓reduceIte, Nat.reduceEqDiff, reduceCtorEq, Nat.reduceAdd]; with_reducible exact rfl)); (focus first | assumption | exact rfl))
      | ((with_reducible apply arun_gno); (focus exact rfl); (focus (simp only [go_sem, ↓reduceIte, Nat.reduceEqDiff, reduceCtorEq, Nat.reduceAdd]; with_reducible exact rfl)); (focus first | assumption | exact rfl))
      | ((with_reducible apply arun_guard); (focus exact rfl); (focus (simp only [go_sem, ↓reduceIte, Nat.reduceEqDiff, reduceCtorEq, Nat.reduceAdd]; with_reducible exact rfl)); (focus intro hb); rotate_left; (focus intro hb); rotate_right))
    all_goals (simp only [go_sem, ↓reduceIte, Nat.reduceEqDiff, reduceCtorEq, Nat.reduceAdd]; refine hK _ ?_; clear hK K)
    refine awp_own 6 46 48 1 (by decide) rfl rfl ?_
    refine awp_forget (L := [(0, .lst (ints .u32 A)), (1, .lst (ints .u32 C)), (6, .own 46), (7, vInt .i64 0)]) (by simp [agree_cons, agree_nil, slook_cons, upd_app, vInt]) ?_
    rw [upd_hlook]
    refine awp_seq_k fun K hK => ?_
    refine awp_seq_k fun K1 hK1 => ?_
    refine awp_region (Θ := Θ) (Γ := Γ) [0, 1, 6, 7, 8] ΘOK ΓOK rfl ?_
    repeat' (first
      | (with_reducible refine arun_nil ?_)
      | ((with_reducible apply arun_step); (focus exact rfl); (focus (simp (disch := first | assumption | omega) only [go_sem, ↓reduceIte, Nat.reduceEqDiff, reduceCtorEq, Nat.reduceAdd]; with_reducible exact rfl)))
      | ((with_reducible apply arun_if); (focus exact rfl); (focus (simp (disch := first | assumption | omega) only [go_sem, ↓reduceIte, Nat.reduceEqDiff, reduceCtorEq, Nat.reduceAdd]; with_reducible exact rfl)); (focus omega))
      | ((with_reducible apply arun_ifn); (focus exact rfl); (focus (simp (disch := first | assumption | omega) only [go_sem, ↓reduceIte, Nat.reduceEqDiff, reduceCtorEq, Nat.reduceAdd]; with_reducible exact rfl)); (focus omega))
      | ((with_reducible apply arun_gyes); (focus exact rfl); (focus (simp only [go_sem, ↓reduceIte, Nat.reduceEqDiff, reduceCtorEq, Nat.reduceAdd]; with_reducible exact rfl)); (focus first | assumption | exact rfl))
      | ((with_reducible apply arun_gno); (focus exact rfl); (focus (simp only [go_sem, ↓reduceIte, Nat.reduceEqDiff, reduceCtorEq, Nat.reduceAdd]; with_reducible exact rfl)); (focus first | assumption | exact rfl))
      | ((with_reducible apply arun_guard); (focus exact rfl); (focus (simp only [go_sem, ↓reduceIte, Nat.reduceEqDiff, reduceCtorEq, Nat.reduceAdd]; with_reducible exact rfl)); (focus intro hb); rotate_left; (focus intro hb); rotate_right))
    all_goals (simp only [go_sem, ↓reduceIte, Nat.reduceEqDiff, reduceCtorEq, Nat.reduceAdd]; refine hK1 _ ?_; clear hK1 K1)
    refine awp_block ?_
    refine awp_loop_st (ι := Nat × List Int × Int) (fun p => [(0, .lst (ints .u32 A)), (1, .lst (ints .u32 C)), (6, .own 46), (7, vInt .i64 p.2.2), (8, vInt .i64 p.1)]) (fun p => [(46, ⟨48, 1, ints .u32 p.2.1, none⟩)]) (fun p => A.length - p.1)
      (fun p => p.1 ≤ A.length ∧ okL p.2.1 ∧ p.2.1.length = p.1 ∧ (0 ≤ p.2.2 ∧ p.2.2 ≤ 1) ∧ iv p.2.1 - W p.1 * p.2.2 = iv (A.take p.1) - iv (C.take p.1)) (0, [], 0)
      ⟨by simp, okL_nil, rfl, by simp, by simp [iv, nv]⟩ (by simp [agree_cons, agree_nil, slook_cons, vInt]) (by simp [ints, updL]) ?_
    rintro ⟨i, O, b⟩ ⟨h1, h2, h3, h4, h6⟩
    simp only at h1 h2 h3 h4 h6 ⊢
    refine awp_seq_k fun K2 hK2 => ?_
    refine awp_seq_k fun K3 hK3 => ?_
    refine awp_region (Θ := Θ) (Γ := Γ) [0, 1, 6, 7, 8, 17] ΘOK ΓOK rfl ?_
    repeat' (first
      | (with_reducible refine arun_nil ?_)
      | ((with_reducible apply arun_step); (focus exact rfl); (focus (simp (disch := first | assumption | omega) only [go_sem, ↓reduceIte, Nat.reduceEqDiff, reduceCtorEq, Nat.reduceAdd]; with_reducible exact rfl)))
      | ((with_reducible apply arun_if); (focus exact rfl); (focus (simp (disch := first | assumption | omega) only [go_sem, ↓reduceIte, Nat.reduceEqDiff, reduceCtorEq, Nat.reduceAdd]; with_reducible exact rfl)); (focus omega))
      | ((with_reducible apply arun_ifn); (focus exact rfl); (focus (simp (disch := first | assumption | omega) only [go_sem, ↓reduceIte, Nat.reduceEqDiff, reduceCtorEq, Nat.reduceAdd]; with_reducible exact rfl)); (focus omega))
      | ((with_reducible apply arun_gyes); (focus exact rfl); (focus (simp only [go_sem, ↓reduceIte, Nat.reduceEqDiff, reduceCtorEq, Nat.reduceAdd]; with_reducible exact rfl)); (focus first | assumption | exact rfl))
      | ((with_reducible apply arun_gno); (focus exact rfl); (focus (simp only [go_sem, ↓reduceIte, Nat.reduceEqDiff, reduceCtorEq, Nat.reduceAdd]; with_reducible exact rfl)); (focus first | assumption | exact rfl))
      | ((with_reducible apply arun_guard); (focus exact rfl); (focus (simp only [go_sem, ↓reduceIte, Nat.reduceEqDiff, reduceCtorEq, Nat.reduceAdd]; with_reducible exact rfl)); (focus intro hb); rotate_left; (focus intro hb); rotate_right))
    all_goals (simp only [go_sem, ↓reduceIte, Nat.reduceEqDiff, reduceCtorEq, Nat.reduceAdd]; refine hK3 _ ?_; clear hK3 K3)
    apply awp_cond
    (focus (simp only [go_sem, ↓reduceIte, Nat.reduceEqDiff, reduceCtorEq, Nat.reduceAdd]; exact rfl))
    all_goals intro hc
    · have hi : i < A.length := by simpa using hc
      clear hc
      refine awp_skip ?_
      refine hK2 _ ?_; clear hK2 K2
      have hs := rsub_step hA hC h3 h4 h6
      have hx := okL_get hA i
      have hy := okL_get hC i
      have hy2 : ¬ i < C.length → C.getD i 0 = 0 := fun h => getD_ge C (by omega)
      generalize hxe : A.getD i 0 = x at *
      generalize hye : C.getD i 0 = y at *
      refine awp_seq_k fun K2 hK2 => ?_
      refine awp_block ?_
      refine awp_seq_k fun K3 hK3 => ?_
      refine awp_region (Θ := Θ) (Γ := Γ) [0, 1, 6, 7, 8, 9] ΘOK ΓOK rfl ?_
      repeat' (first
        | (with_reducible refine arun_nil ?_)
        | ((with_reducible apply arun_step); (focus exact rfl); (focus (simp (disch := first | assumption | omega) only [go_sem, ↓reduceIte, Nat.reduceEqDiff, reduceCtorEq, Nat.reduceAdd, hxe, hye]; with_reducible exact rfl)))
        | ((with_reducible apply arun_if); (focus exact rfl); (focus (simp (disch := first | assumption | omega) only [go_sem, ↓reduceIte, Nat.reduceEqDiff, reduceCtorEq, Nat.reduceAdd, hxe, hye]; with_reducible exact rfl)); (focus omega))
        | ((with_reducible apply arun_ifn); (focus exact rfl); (focus (simp (disch := first | assumption | omega) only [go_sem, ↓reduceIte, Nat.reduceEqDiff, reduceCtorEq, Nat.reduceAdd, hxe, hye]; with_reducible exact rfl)); (focus omega))
        | ((with_reducible apply arun_gyes); (focus exact rfl); (focus (simp only [go_sem, ↓reduceIte, Nat.reduceEqDiff, reduceCtorEq, Nat.reduceAdd, hxe, hye]; with_reducible exact rfl)); (focus first | assumption | exact rfl))
        | ((with_reducible apply arun_gno); (focus exact rfl); (focus (simp only [go_sem, ↓reduceIte, Nat.reduceEqDiff, reduceCtorEq, Nat.reduceAdd, hxe, hye]; with_reducible exact rfl)); (focus first | assumption | exact rfl))
        | ((with_reducible apply arun_guard); (focus exact rfl); (focus (simp only [go_sem, ↓reduceIte, Nat.reduceEqDiff, reduceCtorEq, Nat.reduceAdd, hxe, hye]; with_reducible exact rfl)); (focus intro hb); rotate_left; (focus intro hb); rotate_right))
      all_goals (simp only [go_sem, ↓reduceIte, Nat.reduceEqDiff, reduceCtorEq, Nat.reduceAdd]; refine hK3 _ ?_; clear hK3 K3)
      refine awp_seq_k fun K3 hK3 => ?_
      have step2 : ∀ σ : St, agree [(0, .lst (ints .u32 A)), (1, .lst (ints .u32 C)), (6, .own 46), (8, vInt .i64 i), (9, vInt .i64 (x - b - y))] σ.t → σ.h = hlook [(46, ⟨48, 1, ints .u32 O, none⟩)] → K3 σ := by
        intro σ hag hh
        refine hK3 σ ?_
        refine awp_forget _ hag ?_
        rw [hh]
        refine awp_seq_k fun K4 hK4 => ?_
        refine awp_region (Θ := Θ) (Γ := Γ) [0, 1, 6, 7, 8, 9] ΘOK ΓOK rfl ?_
        repeat' (first
          | (with_reducible refine arun_nil ?_)
          | ((with_reducible apply arun_step); (focus exact rfl); (focus (simp (disch := first | assumption | omega) only [go_sem, ↓reduceIte, Nat.reduceEqDiff, reduceCtorEq, Nat.reduceAdd, hxe, hye]; with_reducible exact rfl)))
          | ((with_reducible apply arun_if); (focus exact rfl); (focus (simp (disch := first | assumption | omega) only [go_sem, ↓reduceIte, Nat.reduceEqDiff, reduceCtorEq, Nat.reduceAdd, hxe, hye]; with_reducible exact rfl)); (focus omega))
          | ((with_reducible apply arun_ifn); (focus exact rfl); (focus (simp (disch := first | assumption | omega) only [go_sem, ↓reduceIte, Nat.reduceEqDiff, reduceCtorEq, Nat.reduceAdd, hxe, hye]; with_reducible exact rfl)); (focus omega))
          | ((with_reducible apply arun_gyes); (focus exact rfl); (focus (simp only [go_sem, ↓reduceIte, Nat.reduceEqDiff, reduceCtorEq, Nat.reduceAdd, hxe, hye]; with_reducible exact rfl)); (focus first | assumption | exact rfl))
          | ((with_reducible apply arun_gno); (focus exact rfl); (focus (simp only [go_sem, ↓reduceIte, Nat.reduceEqDiff, reduceCtorEq, Nat.reduceAdd, hxe, hye]; with_reducible exact rfl)); (focus first | assumption | exact rfl))
          | ((with_reducible apply arun_guard); (focus exact rfl); (focus (simp only [go_sem, ↓reduceIte, Nat.reduceEqDiff, reduceCtorEq, Nat.reduceAdd, hxe, hye]; with_reducible exact rfl)); (focus intro hb); rotate_left; (focus intro hb); rotate_right))
        all_goals (simp only [go_sem, ↓reduceIte, Nat.reduceEqDiff, reduceCtorEq, Nat.reduceAdd]; refine hK4 _ ?_; clear hK4 K4)
        refine awp_seq_k fun K4 hK4 => ?_
        have step3 : ∀ (z q : Int) (σ : St), z = (x - b - y) % 4294967296 → q = (if x - b - y < 0 then 1 else 0) → agree [(0, .lst (ints .u32 A)), (1, .lst (ints .u32 C)), (6, .own 46), (7, vInt .i64 q), (8, vInt .i64 i), (9, vInt .i64 z)] σ.t → σ.h = hlook [(46, ⟨48, 1, ints .u32 O, none⟩)] → K4 σ := by
          intro z q σ hz hq hag hh
          refine hK4 σ ?_
          refine awp_forget _ hag ?_
          rw [hh]
          have hlO : O.length + 1 ≤ 35184372088832 := by omega
          rw [← hz, ← hq] at hs
          have hz0 : 0 ≤ z ∧ z < 4294967296 := by omega
          have hq0 : 0 ≤ q ∧ q ≤ 1 := by subst hq; split <;> omega
          refine awp_region (Θ := Θ) (Γ := Γ) [0, 1, 6, 7, 8] ΘOK ΓOK rfl ?_
          repeat' (first
            | (with_reducible refine arun_nil ?_)
            | ((with_reducible apply arun_step); (focus exact rfl); (focus (simp (disch := first | assumption | omega) only [go_sem, ↓reduceIte, Nat.reduceEqDiff, reduceCtorEq, Nat.reduceAdd]; with_reducible exact rfl)))
            | ((with_reducible apply arun_if); (focus exact rfl); (focus (simp (disch := first | assumption | omega) only [go_sem, ↓reduceIte, Nat.reduceEqDiff, reduceCtorEq, Nat.reduceAdd]; with_reducible exact rfl)); (focus omega))
            | ((with_reducible apply arun_ifn); (focus exact rfl); (focus (simp (disch := first | assumption | omega) only [go_sem, ↓reduceIte, Nat.reduceEqDiff, reduceCtorEq, Nat.reduceAdd]; with_reducible exact rfl)); (focus omega))
            | ((with_reducible apply arun_gyes); (focus exact rfl); (focus (simp only [go_sem, ↓reduceIte, Nat.reduceEqDiff, reduceCtorEq, Nat.reduceAdd]; with_reducible exact rfl)); (focus first | assumption | exact rfl))
            | ((with_reducible apply arun_gno); (focus exact rfl); (focus (simp only [go_sem, ↓reduceIte, Nat.reduceEqDiff, reduceCtorEq, Nat.reduceAdd]; with_reducible exact rfl)); (focus first | assumption | exact rfl))
            | ((with_reducible apply arun_guard); (focus exact rfl); (focus (simp only [go_sem, ↓reduceIte, Nat.reduceEqDiff, reduceCtorEq, Nat.reduceAdd]; with_reducible exact rfl)); (focus intro hb); rotate_left; (focus intro hb); rotate_right))
          all_goals (simp only [go_sem, ↓reduceIte, Nat.reduceEqDiff, reduceCtorEq, Nat.reduceAdd])
          refine hK2 _ ?_
          refine awp_region (Θ := Θ) (Γ := Γ) [0, 1, 6, 7, 8] ΘOK ΓOK rfl ?_
          repeat' (first
            | (with_reducible refine arun_nil ?_)
            | ((with_reducible apply arun_step); (focus exact rfl); (focus (simp (disch := first | assumption | omega) only [go_sem, ↓reduceIte, Nat.reduceEqDiff, reduceCtorEq, Nat.reduceAdd]; with_reducible exact rfl)))
            | ((with_reducible apply arun_if); (focus exact rfl); (focus (simp (disch := first | assumption | omega) only [go_sem, ↓reduceIte, Nat.reduceEqDiff, reduceCtorEq, Nat.reduceAdd]; with_reducible exact rfl)); (focus omega))
            | ((with_reducible apply arun_ifn); (focus exact rfl); (focus (simp (disch := first | assumption | omega) only [go_sem, ↓reduceIte, Nat.reduceEqDiff, reduceCtorEq, Nat.reduceAdd]; with_reducible exact rfl)); (focus omega))
            | ((with_reducible apply arun_gyes); (focus exact rfl); (focus (simp only [go_sem, ↓reduceIte, Nat.reduceEqDiff, reduceCtorEq, Nat.reduceAdd]; with_reducible exact rfl)); (focus first | assumption | exact rfl))
            | ((with_reducible apply arun_gno); (focus exact rfl); (focus (simp only [go_sem, ↓reduceIte, Nat.reduceEqDiff, reduceCtorEq, Nat.reduceAdd]; with_reducible exact rfl)); (focus first | assumption | exact rfl))
            | ((with_reducible apply arun_guard); (focus exact rfl); (focus (simp only [go_sem, ↓reduceIte, Nat.reduceEqDiff, reduceCtorEq, Nat.reduceAdd]; with_reducible exact rfl)); (focus intro hb); rotate_left; (focus intro hb); rotate_right))
          all_goals (simp only [go_sem, ↓reduceIte, Nat.reduceEqDiff, reduceCtorEq, Nat.reduceAdd])
          rw [Int.emod_eq_of_lt hz0.1 hz0.2]
          refine ⟨(i + 1, O ++ [z], q), ⟨by simp only; omega, okL_append.2 ⟨h2, okL_cons.2 ⟨hz0, okL_nil⟩⟩, by simp [h3], hq0, hs⟩, ?_, rfl, by simp only; omega⟩
          first | (simp [agree_cons, agree_nil, slook_cons, vInt]; done) | (simp [agree_cons, agree_nil, slook_cons, vInt]; omega) | (simp [agree_cons, agree_nil, slook_cons, vInt]; grind)
        refine awp_seq_k fun K5 hK5 => ?_
        refine awp_region (Θ := Θ) (Γ := Γ) [0, 1, 6, 7, 8, 9, 39] ΘOK ΓOK rfl ?_
        repeat' (first
          | (with_reducible refine arun_nil ?_)
          | ((with_reducible apply arun_step); (focus exact rfl); (focus (simp (disch := first | assumption | omega) only [go_sem, ↓reduceIte, Nat.reduceEqDiff, reduceCtorEq, Nat.reduceAdd]; with_reducible exact rfl)))
          | ((with_reducible apply arun_if); (focus exact rfl); (focus (simp (disch := first | assumption | omega) only [go_sem, ↓reduceIte, Nat.reduceEqDiff, reduceCtorEq, Nat.reduceAdd]; with_reducible exact rfl)); (focus omega))
          | ((with_reducible apply arun_ifn); (focus exact rfl); (focus (simp (disch := first | assumption | omega) only [go_sem, ↓reduceIte, Nat.reduceEqDiff, reduceCtorEq, Nat.reduceAdd]; with_reducible exact rfl)); (focus omega))
          | ((with_reducible apply arun_gyes); (focus exact rfl); (focus (simp only [go_sem, ↓reduceIte, Nat.reduceEqDiff, reduceCtorEq, Nat.reduceAdd]; with_reducible exact rfl)); (focus first | assumption | exact rfl))
          | ((with_reducible apply arun_gno); (focus exact rfl); (focus (simp only [go_sem, ↓reduceIte, Nat.reduceEqDiff, reduceCtorEq, Nat.reduceAdd]; with_reducible exact rfl)); (focus first | assumption | exact rfl))
          | ((with_reducible apply arun_guard); (focus exact rfl); (focus (simp only [go_sem, ↓reduceIte, Nat.reduceEqDiff, reduceCtorEq, Nat.reduceAdd]; with_reducible exact rfl)); (focus intro hb); rotate_left; (focus intro hb); rotate_right))
        all_goals (simp only [go_sem, ↓reduceIte, Nat.reduceEqDiff, reduceCtorEq, Nat.reduceAdd]; refine hK5 _ ?_; clear hK5 K5)
        apply awp_cond
        (focus (simp only [go_sem, ↓reduceIte, Nat.reduceEqDiff, reduceCtorEq, Nat.reduceAdd]; exact rfl))
        all_goals intro hc
        · have hlt : x - b - y < 0 := by simpa using hc
          refine awp_seq_k fun K5 hK5 => ?_
          refine awp_region (Θ := Θ) (Γ := Γ) [0, 1, 6, 7, 8, 9] ΘOK ΓOK rfl ?_
          repeat' (first
            | (with_reducible refine arun_nil ?_)
            | ((with_reducible apply arun_step); (focus exact rfl); (focus (simp (disch := first | assumption | omega) only [go_sem, ↓reduceIte, Nat.reduceEqDiff, reduceCtorEq, Nat.reduceAdd]; with_reducible exact rfl)))
            | ((with_reducible apply arun_if); (focus exact rfl); (focus (simp (disch := first | assumption | omega) only [go_sem, ↓reduceIte, Nat.reduceEqDiff, reduceCtorEq, Nat.reduceAdd]; with_reducible exact rfl)); (focus omega))
            | ((with_reducible apply arun_ifn); (focus exact rfl); (focus (simp (disch := first | assumption | omega) only [go_sem, ↓reduceIte, Nat.reduceEqDiff, reduceCtorEq, Nat.reduceAdd]; with_reducible exact rfl)); (focus omega))
            | ((with_reducible apply arun_gyes); (focus exact rfl); (focus (simp only [go_sem, ↓reduceIte, Nat.reduceEqDiff, reduceCtorEq, Nat.reduceAdd]; with_reducible exact rfl)); (focus first | assumption | exact rfl))
            | ((with_reducible apply arun_gno); (focus exact rfl); (focus (simp only [go_sem, ↓reduceIte, Nat.reduceEqDiff, reduceCtorEq, Nat.reduceAdd]; with_reducible exact rfl)); (focus first | assumption | exact rfl))
            | ((with_reducible apply arun_guard); (focus exact rfl); (focus (simp only [go_sem, ↓reduceIte, Nat.reduceEqDiff, reduceCtorEq, Nat.reduceAdd]; with_reducible exact rfl)); (focus intro hb); rotate_left; (focus intro hb); rotate_right))
          all_goals (simp only [go_sem, ↓reduceIte, Nat.reduceEqDiff, reduceCtorEq, Nat.reduceAdd]; refine hK5 _ ?_; clear hK5 K5)
          refine awp_region (Θ := Θ) (Γ := Γ) [0, 1, 6, 7, 8, 9] ΘOK ΓOK rfl ?_
          repeat' (first
            | (with_reducible refine arun_nil ?_)
            | ((with_reducible apply arun_step); (focus exact rfl); (focus (simp (disch := first | assumption | omega) only [go_sem, ↓reduceIte, Nat.reduceEqDiff, reduceCtorEq, Nat.reduceAdd]; with_reducible exact rfl)))
            | ((with_reducible apply arun_if); (focus exact rfl); (focus (simp (disch := first | assumption | omega) only [go_sem, ↓reduceIte, Nat.reduceEqDiff, reduceCtorEq, Nat.reduceAdd]; with_reducible exact rfl)); (focus omega))
            | ((with_reducible apply arun_ifn); (focus exact rfl); (focus (simp (disch := first | assumption | omega) only [go_sem, ↓reduceIte, Nat.reduceEqDiff, reduceCtorEq, Nat.reduceAdd]; with_reducible exact rfl)); (focus omega))
            | ((with_reducible apply arun_gyes); (focus exact rfl); (focus (simp only [go_sem, ↓reduceIte, Nat.reduceEqDiff, reduceCtorEq, Nat.reduceAdd]; with_reducible exact rfl)); (focus first | assumption | exact rfl))
            | ((with_reducible apply arun_gno); (focus exact rfl); (focus (simp only [go_sem, ↓reduceIte, Nat.reduceEqDiff, reduceCtorEq, Nat.reduceAdd]; with_reducible exact rfl)); (focus first | assumption | exact rfl))
            | ((with_reducible apply arun_guard); (focus exact rfl); (focus (simp only [go_sem, ↓reduceIte, Nat.reduceEqDiff, reduceCtorEq, Nat.reduceAdd]; with_reducible exact rfl)); (focus intro hb); rotate_left; (focus intro hb); rotate_right))
          all_goals (simp only [go_sem, ↓reduceIte, Nat.reduceEqDiff, reduceCtorEq, Nat.reduceAdd])
          refine step3 (x - b - y + 4294967296) 1 _ (by omega) (by rw [if_pos hlt]) ?_ rfl
          first | (simp [agree_cons, agree_nil, slook_cons, vInt]; done) | (simp [agree_cons, agree_nil, slook_cons, vInt]; omega) | (simp [agree_cons, agree_nil, slook_cons, vInt]; grind)
        · have hlt : ¬ x - b - y < 0 := by simpa using hc
          refine awp_skip ?_
          refine step3 (x - b - y) 0 _ (by omega) (by rw [if_neg hlt]) ?_ rfl
          first | (simp [agree_cons, agree_nil, slook_cons, vInt]; done) | (simp [agree_cons, agree_nil, slook_cons, vInt]; omega) | (simp [agree_cons, agree_nil, slook_cons, vInt]; grind)
      refine awp_seq_k fun K4 hK4 => ?_
      refine awp_region (Θ := Θ) (Γ := Γ) [0, 1, 6, 7, 8, 9, 30] ΘOK ΓOK rfl ?_
      repeat' (first
        | (with_reducible refine arun_nil ?_)
        | ((with_reducible apply arun_step); (focus exact rfl); (focus (simp (disch := first | assumption | omega) only [go_sem, ↓reduceIte, Nat.reduceEqDiff, reduceCtorEq, Nat.reduceAdd]; with_reducible exact rfl)))
        | ((with_reducible apply arun_if); (focus exact rfl); (focus (simp (disch := first | assumption | omega) only [go_sem, ↓reduceIte, Nat.reduceEqDiff, reduceCtorEq, Nat.reduceAdd]; with_reducible exact rfl)); (focus omega))
        | ((with_reducible apply arun_ifn); (focus exact rfl); (focus (simp (disch := first | assumption | omega) only [go_sem, ↓reduceIte, Nat.reduceEqDiff, reduceCtorEq, Nat.reduceAdd]; with_reducible exact rfl)); (focus omega))
        | ((with_reducible apply arun_gyes); (focus exact rfl); (focus (simp only [go_sem, ↓reduceIte, Nat.reduceEqDiff, reduceCtorEq, Nat.reduceAdd]; with_reducible exact rfl)); (focus first | assumption | exact rfl))
        | ((with_reducible apply arun_gno); (focus exact rfl); (focus (simp only [go_sem, ↓reduceIte, Nat.reduceEqDiff, reduceCtorEq, Nat.reduceAdd]; with_reducible exact rfl)); (focus first | assumption | exact rfl))
        | ((with_reducible apply arun_guard); (focus exact rfl); (focus (simp only [go_sem, ↓reduceIte, Nat.reduceEqDiff, reduceCtorEq, Nat.reduceAdd]; with_reducible exact rfl)); (focus intro hb); rotate_left; (focus intro hb); rotate_right))
      all_goals (simp only [go_sem, ↓reduceIte, Nat.reduceEqDiff, reduceCtorEq, Nat.reduceAdd]; refine hK4 _ ?_; clear hK4 K4)
      apply awp_cond
      (focus (simp only [go_sem, ↓reduceIte, Nat.reduceEqDiff, reduceCtorEq, Nat.reduceAdd]; exact rfl))
      all_goals intro hc
      · have : i < C.length := by simpa using hc
        refine awp_region (Θ := Θ) (Γ := Γ) [0, 1, 6, 7, 8, 9] ΘOK ΓOK rfl ?_
        repeat' (first
          | (with_reducible refine arun_nil ?_)
          | ((with_reducible apply arun_step); (focus exact rfl); (focus (simp (disch := first | assumption | omega) only [go_sem, ↓reduceIte, Nat.reduceEqDiff, reduceCtorEq, Nat.reduceAdd]; with_reducible exact rfl)))
          | ((with_reducible apply arun_if); (focus exact rfl); (focus (simp (disch := first | assumption | omega) only [go_sem, ↓reduceIte, Nat.reduceEqDiff, reduceCtorEq, Nat.reduceAdd]; with_reducible exact rfl)); (focus omega))
          | ((with_reducible apply arun_ifn); (focus exact rfl); (focus (simp (disch := first | assumption | omega) only [go_sem, ↓reduceIte, Nat.reduceEqDiff, reduceCtorEq, Nat.reduceAdd]; with_reducible exact rfl)); (focus omega))
          | ((with_reducible apply arun_gyes); (focus exact rfl); (focus (simp only [go_sem, ↓reduceIte, Nat.reduceEqDiff, reduceCtorEq, Nat.reduceAdd]; with_reducible exact rfl)); (focus first | assumption | exact rfl))
          | ((with_reducible apply arun_gno); (focus exact rfl); (focus (simp only [go_sem, ↓reduceIte, Nat.reduceEqDiff, reduceCtorEq, Nat.reduceAdd]; with_reducible exact rfl)); (focus first | assumption | exact rfl))
          | ((with_reducible apply arun_guard); (focus exact rfl); (focus (simp only [go_sem, ↓reduceIte, Nat.reduceEqDiff, reduceCtorEq, Nat.reduceAdd]; with_reducible exact rfl)); (focus intro hb); rotate_left; (focus intro hb); rotate_right))
        all_goals (simp only [go_sem, ↓reduceIte, Nat.reduceEqDiff, reduceCtorEq, Nat.reduceAdd])
        refine step2 _ ?_ rfl
        first | (simp [agree_cons, agree_nil, slook_cons, vInt]; done) | (simp [agree_cons, agree_nil, slook_cons, vInt]; omega) | (simp [agree_cons, agree_nil, slook_cons, vInt]; grind)
      · have : ¬ i < C.length := by simpa using hc
        have := hy2 this
        subst this
        refine awp_skip ?_
        refine step2 _ ?_ rfl
        first | (simp [agree_cons, agree_nil, slook_cons, vInt]; done) | (simp [agree_cons, agree_nil, slook_cons, vInt]; omega) | (simp [agree_cons, agree_nil, slook_cons, vInt]; grind)
    · refine awp_exit ?_
      rw [if_pos rfl]
      refine hK _ ?_
      clear hK K hK2 K2
      have hi : i = A.length := by simp at hc; omega
      subst hi
      have hAW := iv_lt hA
      have hCA : iv C ≤ iv A := by unfold iv; omega
      rw [iv_take_ge (Nat.le_refl _), iv_take_of_lt hC (by omega)] at h6
      have hlt := iv_lt h2
      rw [h3] at hlt
      have hb0 : b = 0 := by
        rcases (show b = 0 ∨ b = 1 by omega) with hb | hb
        · exact hb
        · subst hb; exfalso; rw [Int.mul_one] at h6; omega
      subst hb0
      have hr : nv O = nv A - nv C := by
        rw [Int.mul_zero, Int.sub_zero] at h6
        unfold iv at h6
        omega
      have hle2 : decide (nv C ≤ nv A) = true := by simp [hle]
      refine awp_seq_k fun K hK => ?_
      refine awp_region (Θ := Θ) (Γ := Γ) [4, 5] ΘOK ΓOK rfl ?_
      repeat' (first
        | (with_reducible refine arun_nil ?_)
        | ((with_reducible apply arun_step); (focus exact rfl); (focus (simp (disch := first | assumption | omega) only [go_sem, ↓reduceIte, Nat.reduceEqDiff, reduceCtorEq, Nat.reduceAdd]; with_reducible exact rfl)))
        | ((with_reducible apply arun_if); (focus exact rfl); (focus (simp (disch := first | assumption | omega) only [go_sem, ↓reduceIte, Nat.reduceEqDiff, reduceCtorEq, Nat.reduceAdd]; with_reducible exact rfl)); (focus omega))
        | ((with_reducible apply arun_ifn); (focus exact rfl); (focus (simp (disch := first | assumption | omega) only [go_sem, ↓reduceIte, Nat.reduceEqDiff, reduceCtorEq, Nat.reduceAdd]; with_reducible exact rfl)); (focus omega))
        | ((with_reducible apply arun_gyes); (focus exact rfl); (focus (simp only [go_sem, ↓reduceIte, Nat.reduceEqDiff, reduceCtorEq, Nat.reduceAdd]; with_reducible exact rfl)); (focus first | assumption | exact rfl))
        | ((with_reducible apply arun_gno); (focus exact rfl); (focus (simp only [go_sem, ↓reduceIte, Nat.reduceEqDiff, reduceCtorEq, Nat.reduceAdd]; with_reducible exact rfl)); (focus first | assumption | exact rfl))
        | ((with_reducible apply arun_guard); (focus exact rfl); (focus (simp only [go_sem, ↓reduceIte, Nat.reduceEqDiff, reduceCtorEq, Nat.reduceAdd]; with_reducible exact rfl)); (focus intro hb); rotate_left; (focus intro hb); rotate_right))
      all_goals (simp only [go_sem, ↓reduceIte, Nat.reduceEqDiff, reduceCtorEq, Nat.reduceAdd]; refine hK _ ?_; clear hK K)
      refine awp_ret ?_
      simp only [go_sem, ↓reduceIte, Nat.reduceEqDiff, reduceCtorEq, Nat.reduceAdd, Res, rSub, hr, hle2]
end RSub

/-! ### NatAdds -/
namespace NatAdds
def Γ : FuncId → Abs.Spec
  | 21 => .pure spAwake
  | 43 => .pure spAdd
  | 44 => .pure spSub
  | 45 => .pure spSub
  | 46 => .pure spAdd
  | 22 => .pure spSame
  | _ => .none
theorem ΓOK : ∀ f, SpecOK Try.prog f (Γ f) := by
  intro f
  unfold Γ
  split
  · exact ⟨⟨_, Try.func21, by decide +kernel, rfl⟩, Awake.ok⟩
  · exact ⟨⟨_, Try.func43, by decide +kernel, rfl⟩, Add.ok⟩
  · exact ⟨⟨_, Try.func44, by decide +kernel, rfl⟩, Sub.ok⟩
  · exact ⟨⟨_, Try.func45, by decide +kernel, rfl⟩, RSub.ok⟩
  · exact ⟨⟨_, Try.func46, by decide +kernel, rfl⟩, RAdd.ok⟩
  · exact ⟨⟨_, Try.func22, by decide +kernel, rfl⟩, Same22.ok⟩
  · trivial
attribute [local go_sem] Γ
theorem ok : PureOK Try.prog 14 spTrue2 := by
  refine pure_of_awp (n := 41) [4] Try.func14 rfl rfl rfl ?_
  intro M0 w0 args r h
  obtain ⟨L, M, rfl, hL, hLl, hM, hMl, hr⟩ := sp2_some h
  cases hr
  clear h
  refine ⟨by simp, ?_⟩
  have hS := okL_limbs (nv L + nv M)
  have hSl := limbs_add_length hL hM (k := 35184372088731) (by omega) (by omega)
  have hD := okL_limbs (nv L - nv M)
  have hDl := limbs_length_mono (show nv L - nv M ≤ nv L by omega)
  have hAl := limbs_length_nv hL
  refine awp_seq_k fun K hK => ?_
  refine awp_region (Θ := Θ) (Γ := Γ) [0, 1] ΘOK ΓOK rfl ?_
  repeat' (first
    | (with_reducible refine arun_nil ?_)
    | ((with_reducible apply arun_step); (focus exact rfl); (focus (simp (disch := first | assumption | omega) only [go_sem, ↓reduceIte, Nat.reduceEqDiff, reduceCtorEq, Nat.reduceAdd]; with_reducible exact rfl)))
    | ((with_reducible apply arun_if); (focus exact rfl); (focus (simp (disch := first | assumption | omega) only [go_sem, ↓reduceIte, Nat.reduceEqDiff, reduceCtorEq, Nat.reduceAdd]; with_reducible exact rfl)); (focus omega))
    | ((with_reducible apply arun_ifn); (focus exact rfl); (focus (simp (disch := first | assumption | omega) only [go_sem, ↓reduceIte, Nat.reduceEqDiff, reduceCtorEq, Nat.reduceAdd]; with_reducible exact rfl)); (focus omega))
    | ((with_reducible apply arun_gyes); (focus exact rfl); (focus (simp only [go_sem, ↓reduceIte, Nat.reduceEqDiff, reduceCtorEq, Nat.reduceAdd]; with_reducible exact rfl)); (focus first | assumption | exact rfl))
    | ((with_reducible apply arun_gno); (focus exact rfl); (focus (simp only [go_sem, ↓reduceIte, Nat.reduceEqDiff, reduceCtorEq, Nat.reduceAdd]; with_reducible exact rfl)); (focus first | assumption | exact rfl))
    | ((with_reducible apply arun_guard); (focus exact rfl); (focus (simp only [go_sem, ↓reduceIte, Nat.reduceEqDiff, reduceCtorEq, Nat.reduceAdd]; with_reducible exact rfl)); (focus intro hb); rotate_left; (focus intro hb); rotate_right))
  all_goals (simp only [go_sem, ↓reduceIte, Nat.reduceEqDiff, reduceCtorEq, Nat.reduceAdd]; refine hK _ ?_; clear hK K)
  refine awp_seq_k fun K hK => ?_
  refine awp_region (Θ := Θ) (Γ := Γ) [0, 1, 5, 6] ΘOK ΓOK rfl ?_
  repeat' (first
    | (with_reducible refine arun_nil ?_)
    | ((with_reducible apply arun_step); (focus exact rfl); (focus (simp (disch := first | assumption | omega) only [go_sem, ↓reduceIte, Nat.reduceEqDiff, reduceCtorEq, Nat.reduceAdd]; with_reducible exact rfl)))
    | ((with_reducible apply arun_if); (focus exact rfl); (focus (simp (disch := first | assumption | omega) only [go_sem, ↓reduceIte, Nat.reduceEqDiff, reduceCtorEq, Nat.reduceAdd]; with_reducible exact rfl)); (focus omega))
    | ((with_reducible apply arun_ifn); (focus exact rfl); (focus (simp (disch := first | assumption | omega) only [go_sem, ↓reduceIte, Nat.reduceEqDiff, reduceCtorEq, Nat.reduceAdd]; with_reducible exact rfl)); (focus omega))
    | ((with_reducible apply arun_gyes); (focus exact rfl); (focus (simp only [go_sem, ↓reduceIte, Nat.reduceEqDiff, reduceCtorEq, Nat.reduceAdd]; with_reducible exact rfl)); (focus first | assumption | exact rfl))
    | ((with_reducible apply arun_gno); (focus exact rfl); (focus (simp only [go_sem, ↓reduceIte, Nat.reduceEqDiff, reduceCtorEq, Nat.reduceAdd]; with_reducible exact rfl)); (focus first | assumption | exact rfl))
    | ((with_reducible apply arun_guard); (focus exact rfl); (focus (simp only [go_sem, ↓reduceIte, Nat.reduceEqDiff, reduceCtorEq, Nat.reduceAdd]; with_reducible exact rfl)); (focus intro hb); rotate_left; (focus intro hb); rotate_right))
  all_goals (simp only [go_sem, ↓reduceIte, Nat.reduceEqDiff, reduceCtorEq, Nat.reduceAdd]; refine hK _ ?_; clear hK K)
  refine awp_seq_k fun K hK => ?_
  refine awp_region (Θ := Θ) (Γ := Γ) [0, 1, 5, 6, 7, 8] ΘOK ΓOK rfl ?_
  repeat' (first
    | (with_reducible refine arun_nil ?_)
    | ((with_reducible apply arun_step); (focus exact rfl); (focus (simp (disch := first | assumption | omega) only [go_sem, ↓reduceIte, Nat.reduceEqDiff, reduceCtorEq, Nat.reduceAdd]; with_reducible exact rfl)))
    | ((with_reducible apply arun_if); (focus exact rfl); (focus (simp (disch := first | assumption | omega) only [go_sem, ↓reduceIte, Nat.reduceEqDiff, reduceCtorEq, Nat.reduceAdd]; with_reducible exact rfl)); (focus omega))
    | ((with_reducible apply arun_ifn); (focus exact rfl); (focus (simp (disch := first | assumption | omega) only [go_sem, ↓reduceIte, Nat.reduceEqDiff, reduceCtorEq, Nat.reduceAdd]; with_reducible exact rfl)); (focus omega))
    | ((with_reducible apply arun_gyes); (focus exact rfl); (focus (simp only [go_sem, ↓reduceIte, Nat.reduceEqDiff, reduceCtorEq, Nat.reduceAdd]; with_reducible exact rfl)); (focus first | assumption | exact rfl))
    | ((with_reducible apply arun_gno); (focus exact rfl); (focus (simp only [go_sem, ↓reduceIte, Nat.reduceEqDiff, reduceCtorEq, Nat.reduceAdd]; with_reducible exact rfl)); (focus first | assumption | exact rfl))
    | ((with_reducible apply arun_guard); (focus exact rfl); (focus (simp only [go_sem, ↓reduceIte, Nat.reduceEqDiff, reduceCtorEq, Nat.reduceAdd]; with_reducible exact rfl)); (focus intro hb); rotate_left; (focus intro hb); rotate_right))
  all_goals (simp only [go_sem, ↓reduceIte, Nat.reduceEqDiff, reduceCtorEq, Nat.reduceAdd]; refine hK _ ?_; clear hK K)
  refine awp_seq_k fun K hK => ?_
  refine awp_region (Θ := Θ) (Γ := Γ) [4] ΘOK ΓOK rfl ?_
  repeat' (first
    | (with_reducible refine arun_nil ?_)
    | ((with_reducible apply arun_step); (focus exact rfl); (focus (simp (disch := first | assumption | omega) only [go_sem, ↓reduceIte, Nat.reduceEqDiff, reduceCtorEq, Nat.reduceAdd]; with_reducible exact rfl)))
    | ((with_reducible apply arun_if); (focus exact rfl); (focus (simp (disch := first | assumption | omega) only [go_sem, ↓reduceIte, Nat.reduceEqDiff, reduceCtorEq, Nat.reduceAdd]; with_reducible exact rfl)); (focus omega))
    | ((with_reducible apply arun_ifn); (focus exact rfl); (focus (simp (disch := first | assumption | omega) only [go_sem, ↓reduceIte, Nat.reduceEqDiff, reduceCtorEq, Nat.reduceAdd]; with_reducible exact rfl)); (focus omega))
    | ((with_reducible apply arun_gyes); (focus exact rfl); (focus (simp only [go_sem, ↓reduceIte, Nat.reduceEqDiff, reduceCtorEq, Nat.reduceAdd]; with_reducible exact rfl)); (focus first | assumption | exact rfl))
    | ((with_reducible apply arun_gno); (focus exact rfl); (focus (simp only [go_sem, ↓reduceIte, Nat.reduceEqDiff, reduceCtorEq, Nat.reduceAdd]; with_reducible exact rfl)); (focus first | assumption | exact rfl))
    | ((with_reducible apply arun_guard); (focus exact rfl); (focus (simp only [go_sem, ↓reduceIte, Nat.reduceEqDiff, reduceCtorEq, Nat.reduceAdd]; with_reducible exact rfl)); (focus intro hb); rotate_left; (focus intro hb); rotate_right))
  all_goals (simp only [go_sem, ↓reduceIte, Nat.reduceEqDiff, reduceCtorEq, Nat.reduceAdd]; refine hK _ ?_; clear hK K)
  refine awp_ret ?_
  simp only [go_sem, ↓reduceIte, Nat.reduceEqDiff, reduceCtorEq, Nat.reduceAdd, Res]
end NatAdds
end Go.Proofs
