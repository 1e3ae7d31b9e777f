/- What a call is handed, as it reads. -/
import Derived.Test.YtjnejhlnhapogaaAbs18
namespace Go.Abs
open Go Go.RowKit Go.NatMath
set_option linter.unusedVariables false
set_option linter.unusedSimpArgs false

theorem flat_ints (k : IntKind) (L : List Int) : flat (ints k L) = ints k L := by
  induction L with
  | nil => rfl
  | cons n L ih => simp only [ints, List.map_cons, flat, vInt, cellsOf] at ih ⊢; rw [ih]; rfl

theorem rep_row {w : World} {k : IntKind} {a : Option Addr} {len cap : Nat} {zs : List Int}
    (h : (a = none ∧ len = 0 ∧ cap = 0 ∧ zs = []) ∨ ∃ x, a = some x ∧ len ≤ cap ∧ cap ≤ maxLen ∧ zs.length = cap ∧ (∀ i, i < zs.length → w.cell? (x.add i) = some (.int k (zs.getD i 0))) ∧ ∀ n ∈ zs, (Lit.int k n).wf = true) :
    Rep w (fun _ => False) (.lst (ints k (zs.take len))) (.slice a len cap) ∧ (zs.take len).length = len ∧ ∀ n ∈ zs.take len, (Lit.int k n).wf = true := by
  rcases h with ⟨rfl, rfl, rfl, rfl⟩ | ⟨x, rfl, h1, h2, h3, h4, h5⟩
  · exact ⟨.lst [] none 0 1 0 0 (fun _ => undef) (Nat.le_refl _) (fun x hx => by simp at hx) (fun h => by simp at h) (fun j y hy => by simp [flat] at hy) (fun j y hy => by simp [flat] at hy), rfl, fun n hn => by simp at hn⟩
  · have hl : (zs.take len).length = len := by simp; omega
    have hil : (ints k (zs.take len)).length = len := by rw [ints_length, hl]
    refine ⟨?_, hl, fun n hn => h5 n (List.mem_of_mem_take hn)⟩
    have key := Rep.lst (w := w) (M := fun _ => False) (ints k (zs.take len)) (some x) cap 1 x.block x.off (fun j => .int k (zs.getD j 0)) (by omega)
      (fun y hy => by obtain ⟨n, _, rfl⟩ := List.mem_map.1 hy; rfl) (fun h0 => by
        rw [hil] at h0
        have hc := h4 0 (by omega)
        have e : x.add 0 = x := rfl
        rw [e] at hc
        unfold World.cell? at hc
        cases hb : w.heap[x.block]? with
        | none => rw [hb] at hc; cases hc
        | some bl =>
          refine ⟨?_, (Array.getElem?_eq_some_iff.1 hb).1, id⟩
          rw [hb] at hc
          cases bl with
          | cells c e fz =>
            simp only at hc
            cases hs : x.spot with
            | none => cases x; simp at hs; subst hs; rfl
            | some s => rw [hs] at hc; simp at hc
          | _ => cases hc) (fun j y hy => by
        rw [flat_ints] at hy
        have hj : j < len := by have := (List.getElem?_eq_some_iff.1 hy).1; omega
        have hc := h4 j (by omega)
        rw [← hc]
        unfold Addr.add
        by_cases hj0 : j = 0
        · subst hj0
          simp only [if_true, Nat.add_zero]
          unfold World.cell?
          have hc := h4 0 (by omega)
          have e : x.add 0 = x := rfl
          rw [e] at hc
          unfold World.cell? at hc
          cases hb : w.heap[x.block]? with
          | none => simp
          | some bl =>
            rw [hb] at hc
            cases bl with
            | cells c e fz =>
              simp only at hc ⊢
              cases hs : x.spot with
              | none => rfl
              | some s => rw [hs] at hc; simp at hc
            | _ => cases hc
        · rw [if_neg hj0]) (fun j y hy => by
        rw [flat_ints] at hy
        have hj : j < len := by have := (List.getElem?_eq_some_iff.1 hy).1; omega
        simp [ints, hj] at hy
        obtain ⟨n, hn, rfl⟩ := hy
        simp only [List.getD_eq_getElem?_getD, hn, Option.getD_some, vInt]
        exact .val _)
    rw [hil] at key
    exact key

theorem wf_i64 {n : Int} (h : (Lit.int .i64 n).wf = true) : -9223372036854775808 ≤ n ∧ n ≤ 9223372036854775807 := by
  simp only [Lit.wf, Bool.and_eq_true, decide_eq_true_eq] at h
  have e1 : IntKind.i64.min = -9223372036854775808 := by decide
  have e2 : IntKind.i64.max = 9223372036854775807 := by decide
  omega

theorem okL_wf {L : List Int} (h : ∀ n ∈ L, (Lit.int .u32 n).wf = true) : okL L := fun n hn => by
  have := h n hn
  simp only [Lit.wf, Bool.and_eq_true, decide_eq_true_eq] at this
  have e1 : IntKind.u32.min = 0 := by decide
  have e2 : IntKind.u32.max = 4294967295 := by decide
  omega

end Go.Abs
