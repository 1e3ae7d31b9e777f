/- An abstract reading of values: lists in the place of slices; what a value reads as in a world, and how that is kept. -/
import Derived.Below
import Derived.Tactics
import Derived.Laws.IdiomCopy
import Derived.Laws.Rows
import Derived.Laws.MakeOwn
import Derived.Laws.OwnMore
import Derived.Deep.OwnRows
import Derived.Deep.MidRow
import Derived.Maps.AppendAt
import Derived.Laws.Entries
import Derived.Laws.Slices
import Derived.Lib.ConvBytes
import Derived.WalkKit
import Derived.KernelRfl
namespace Go.Abs
open Go Go.RowKit

/-- Abstract values. -/
inductive AV where
  | val (v : Value)
  | anyb
  | lst (xs : List AV)
  | agg (xs : List AV)
  | tup (xs : List AV)
  | own (id : Nat)
  | ref (id off len : Nat)
  | pe (x : AV)
  | po (id i off : Nat)
  | top

/-- The cells of a value, as the memory has them. -/
def cellsOf : AV → List AV
  | .agg xs => xs
  | x => [x]

/-- All cells of a row of values. -/
def flat : List AV → List AV
  | [] => []
  | x :: xs => cellsOf x ++ flat xs

def uni (sz : Nat) (xs : List AV) : Prop := ∀ x ∈ xs, (cellsOf x).length = sz

theorem flat_length {sz : Nat} : ∀ {xs : List AV}, uni sz xs → (flat xs).length = xs.length * sz
  | [], _ => by simp [flat]
  | x :: xs, h => by
    have h1 := h x (by simp)
    have h2 := flat_length (xs := xs) (fun y hy => h y (by simp [hy]))
    simp [flat, h1, h2, Nat.add_mul, Nat.add_comm]

theorem flat_append : ∀ (xs ys : List AV), flat (xs ++ ys) = flat xs ++ flat ys
  | [], ys => by simp [flat]
  | x :: xs, ys => by simp [flat, flat_append xs ys]

theorem flat_get {sz : Nat} : ∀ {xs : List AV} {i j : Nat} {x : AV}, uni sz xs → xs[i]? = some x → j < sz → (flat xs)[i * sz + j]? = (cellsOf x)[j]?
  | [], i, j, x, _, h, _ => by simp at h
  | y :: xs, 0, j, x, hu, h, hj => by
    simp at h
    subst h
    have h1 := hu y (by simp)
    simp [flat]
    rw [List.getElem?_append_left (by omega)]
  | y :: xs, i + 1, j, x, hu, h, hj => by
    have h1 := hu y (by simp)
    have h2 := flat_get (xs := xs) (i := i) (j := j) (x := x) (fun z hz => hu z (by simp [hz])) (by simpa using h) hj
    simp only [flat]
    rw [List.getElem?_append_right (by rw [h1, Nat.add_mul]; omega), h1, ← h2]
    congr 1
    rw [Nat.add_mul]; omega

theorem flat_take {sz : Nat} : ∀ {xs : List AV} (n : Nat), uni sz xs → flat (xs.take n) = (flat xs).take (n * sz)
  | [], n, _ => by simp [flat]
  | x :: xs, 0, _ => by simp [flat]
  | x :: xs, n + 1, h => by
    have h1 := h x (by simp)
    have h2 := flat_take (xs := xs) n (fun y hy => h y (by simp [hy]))
    have e : (n + 1) * sz = sz + n * sz := by rw [Nat.add_mul]; omega
    simp only [List.take_succ_cons, flat, h2]
    rw [e, List.take_append, List.take_of_length_le (l := cellsOf x) (by omega), h1]
    congr 2
    omega

theorem flat_drop {sz : Nat} : ∀ {xs : List AV} (n : Nat), uni sz xs → flat (xs.drop n) = (flat xs).drop (n * sz)
  | [], n, _ => by simp [flat]
  | x :: xs, 0, _ => by simp
  | x :: xs, n + 1, h => by
    have h1 := h x (by simp)
    have h2 := flat_drop (xs := xs) n (fun y hy => h y (by simp [hy]))
    have e : (n + 1) * sz = sz + n * sz := by rw [Nat.add_mul]; omega
    simp only [List.drop_succ_cons, flat, h2]
    rw [e, List.drop_append, List.drop_of_length_le (l := cellsOf x) (by omega), h1, List.nil_append]
    congr 1
    omega

theorem uni_take {sz : Nat} {xs : List AV} (n : Nat) (h : uni sz xs) : uni sz (xs.take n) := fun x hx => h x (List.mem_of_mem_take hx)
theorem uni_drop {sz : Nat} {xs : List AV} (n : Nat) (h : uni sz xs) : uni sz (xs.drop n) := fun x hx => h x (List.mem_of_mem_drop hx)

/-- What a value reads as: `M` tells the blocks that it must keep off. -/
inductive Rep (w : World) (M : Nat → Prop) : AV → Value → Prop
  | val (v : Value) : Rep w M (.val v) v
  | top (v : Value) : Rep w M .top v
  | anyb (b : Bool) : Rep w M .anyb (.bool b)
  | agg (xs : List AV) (vs : Array Value) (hl : xs.length = vs.size) (hc : ∀ (i : Nat) x v, xs[i]? = some x → vs[i]? = some v → Rep w M x v) : Rep w M (.agg xs) (.agg vs)
  | tup (xs : List AV) (vs : Array Value) (hl : xs.length = vs.size) (hc : ∀ (i : Nat) x v, xs[i]? = some x → vs[i]? = some v → Rep w M x v) : Rep w M (.tup xs) (.tuple vs)
  | lst (xs : List AV) (a : Option Addr) (c sz b o : Nat) (f : Nat → Value) (hc : xs.length ≤ c) (hu : uni sz xs)
      (ha : 0 < xs.length → a = some ⟨b, o, none⟩ ∧ b < w.heap.size ∧ ¬ M b)
      (hcell : ∀ (j : Nat) y, (flat xs)[j]? = some y → w.cell? ⟨b, o + j, none⟩ = some (f j))
      (hrep : ∀ (j : Nat) y, (flat xs)[j]? = some y → Rep w M y (f j)) : Rep w M (.lst xs) (.slice a xs.length c)
  | pe (x : AV) (b o : Nat) (f : Nat → Value) (hb : b < w.heap.size) (hM : ¬ M b)
      (hcell : ∀ (j : Nat) y, (cellsOf x)[j]? = some y → w.cell? ⟨b, o + j, none⟩ = some (f j))
      (hrep : ∀ (j : Nat) y, (cellsOf x)[j]? = some y → Rep w M y (f j)) : Rep w M (.pe x) (.pointer (some ⟨b, o, none⟩))

theorem World.cell?_congr {w w' : World} {b o : Nat} (h : w'.heap[b]? = w.heap[b]?) : w'.cell? ⟨b, o, none⟩ = w.cell? ⟨b, o, none⟩ := World.cell?_of_block (a := ⟨b, o, none⟩) h

/-- Kept while the blocks outside of `M` are as they were. -/
theorem Rep.keep {w w' : World} {M M' : Nat → Prop} (hs : w.heap.size ≤ w'.heap.size) (hk : ∀ b, b < w.heap.size → ¬ M b → w'.heap[b]? = w.heap[b]?)
    (hM : ∀ b, b < w.heap.size → M' b → M b) {x : AV} {v : Value} (h : Rep w M x v) : Rep w' M' x v := by
  induction h with
  | val v => exact .val v
  | top v => exact .top v
  | anyb b => exact .anyb b
  | agg xs vs hl _ ih => exact .agg xs vs hl ih
  | tup xs vs hl _ ih => exact .tup xs vs hl ih
  | lst xs a c sz b o f hc hu ha hcell hrep ih =>
    refine .lst xs a c sz b o f hc hu (fun h0 => ?_) (fun j y hy => ?_) ih
    · obtain ⟨h1, h2, h3⟩ := ha h0
      exact ⟨h1, by omega, fun hm => h3 (hM b h2 hm)⟩
    · have h0 : 0 < xs.length := by
        cases xs with
        | nil => simp [flat] at hy
        | cons _ _ => simp
      obtain ⟨h1, h2, h3⟩ := ha h0
      rw [World.cell?_congr (hk b h2 h3)]
      exact hcell j y hy
  | pe x b o f hb hM' hcell hrep ih =>
    exact .pe x b o f (by omega) (fun hm => hM' (hM b hb hm)) (fun j y hy => by rw [World.cell?_congr (hk b hb hM')]; exact hcell j y hy) ih

/-- A row of values reads as a row of abstract ones. -/
def RepL (w : World) (M : Nat → Prop) (xs : List AV) (vs : List Value) : Prop := xs.length = vs.length ∧ ∀ (i : Nat) x v, xs[i]? = some x → vs[i]? = some v → Rep w M x v

theorem RepL.nil {w : World} {M : Nat → Prop} : RepL w M [] [] := ⟨rfl, fun i x v h => by simp at h⟩
theorem RepL.cons {w : World} {M : Nat → Prop} {x : AV} {v : Value} {xs : List AV} {vs : List Value} (h : Rep w M x v) (hs : RepL w M xs vs) : RepL w M (x :: xs) (v :: vs) :=
  ⟨by simp [hs.1], fun i y u hy hu => by
    cases i with
    | zero => simp at hy hu; subst hy; subst hu; exact h
    | succ i => exact hs.2 i y u (by simpa using hy) (by simpa using hu)⟩
theorem RepL.keep {w w' : World} {M M' : Nat → Prop} (hs : w.heap.size ≤ w'.heap.size) (hk : ∀ b, b < w.heap.size → ¬ M b → w'.heap[b]? = w.heap[b]?)
    (hM : ∀ b, b < w.heap.size → M' b → M b) {xs : List AV} {vs : List Value} (h : RepL w M xs vs) : RepL w' M' xs vs :=
  ⟨h.1, fun i x v hx hv => (h.2 i x v hx hv).keep hs hk hM⟩
theorem RepL.get {w : World} {M : Nat → Prop} {xs : List AV} {vs : List Value} (h : RepL w M xs vs) {i : Nat} {x : AV} (hx : xs[i]? = some x) : ∃ v, vs[i]? = some v ∧ Rep w M x v := by
  have hi : i < vs.length := by have := (List.getElem?_eq_some_iff.1 hx).1; rw [← h.1]; exact this
  exact ⟨vs[i], List.getElem?_eq_getElem hi, h.2 i x _ hx (List.getElem?_eq_getElem hi)⟩
theorem RepL.append {w : World} {M : Nat → Prop} {xs ys : List AV} {vs us : List Value} (h : RepL w M xs vs) (k : RepL w M ys us) : RepL w M (xs ++ ys) (vs ++ us) := by
  refine ⟨by simp [h.1, k.1], fun i x v hx hv => ?_⟩
  rcases Nat.lt_or_ge i xs.length with hi | hi
  · rw [List.getElem?_append_left hi] at hx
    rw [List.getElem?_append_left (by rw [← h.1]; exact hi)] at hv
    exact h.2 i x v hx hv
  · rw [List.getElem?_append_right hi] at hx
    rw [List.getElem?_append_right (by rw [← h.1]; exact hi), ← h.1] at hv
    exact k.2 _ x v hx hv

/-- An abstract value that takes one cell. -/
def cellAV : AV → Bool
  | .val v => v.oneCell'
  | .anyb | .lst _ | .pe _ => true
  | _ => false
theorem Rep.oneCell {w : World} {M : Nat → Prop} {x : AV} {v : Value} (h : Rep w M x v) (hx : cellAV x = true) : v.oneCell' = true := by
  cases h <;> first | exact hx | rfl | (simp [cellAV] at hx)

theorem Rep.cells {w : World} {M : Nat → Prop} {x : AV} {v : Value} (h : Rep w M x v) (hx : (cellsOf x).all cellAV = true) : RepL w M (cellsOf x) v.cells.toList ∧ ∀ u ∈ v.cells.toList, u.oneCell' = true := by
  have one : ∀ {y : AV} {u : Value}, Rep w M y u → cellsOf y = [y] → cellAV y = true → RepL w M (cellsOf y) u.cells.toList ∧ ∀ z ∈ u.cells.toList, z.oneCell' = true := by
    intro y u hy hc h1
    have h2 := hy.oneCell h1
    have h3 : u.cells = #[u] := by cases u <;> first | rfl | (simp [Value.oneCell'] at h2)
    rw [hc, h3]
    exact ⟨.cons hy .nil, by simpa using h2⟩
  cases h with
  | agg xs vs hl hc =>
    simp only [cellsOf] at hx ⊢
    have hR : RepL w M xs (Value.agg vs).cells.toList := ⟨by simp [Value.cells, hl], fun i x v hx hv => hc i x v hx (by simpa [Value.cells] using hv)⟩
    refine ⟨hR, fun u hu => ?_⟩
    obtain ⟨i, hi, rfl⟩ := List.mem_iff_getElem.1 hu
    have hi' : i < xs.length := by rw [hR.1]; exact hi
    exact (hR.2 i xs[i] _ (List.getElem?_eq_getElem hi') (List.getElem?_eq_getElem hi)).oneCell (List.all_eq_true.1 hx _ (List.getElem_mem hi'))
  | val v => exact one (.val v) rfl (by simpa [cellsOf] using hx)
  | top v => simp [cellsOf, cellAV] at hx
  | anyb b => exact one (.anyb b) rfl rfl
  | tup xs vs hl hc => simp [cellsOf, cellAV] at hx
  | lst xs a c sz b o f h1 h2 h3 h4 h5 => exact one (.lst xs a c sz b o f h1 h2 h3 h4 h5) rfl rfl
  | pe x b o f h1 h2 h3 h4 => exact one (.pe x b o f h1 h2 h3 h4) rfl rfl

end Go.Abs
