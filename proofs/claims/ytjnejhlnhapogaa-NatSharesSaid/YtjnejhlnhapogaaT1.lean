/- Contracts of functions that the law reaches: what they compute. No condition. -/
import Derived.Below
import Derived.Tactics
import Derived.Laws.IdiomCopy
import Derived.Laws.Rows
import Derived.Laws.MakeOwn
import Derived.Laws.OwnMore
import Derived.Deep.OwnRows
import Derived.Deep.MidRow
import Derived.Maps.AppendAt
import Derived.Laws.Entries
import Derived.Laws.Slices
import Derived.Lib.ConvBytes
import Derived.WalkKit
import Derived.KernelRfl
import Derived.Orders
set_option linter.unusedVariables false
set_option linter.unusedSimpArgs false
/- An abstract reading of values: lists in the place of slices; what a value reads as in a world, and how that is kept. -/
namespace Go.Abs
open Go Go.RowKit

/-- Abstract values. -/
inductive AV where
  | val (v : Value)
  | anyb
  | lst (xs : List AV)
  | agg (xs : List AV)
  | tup (xs : List AV)
  | own (id : Nat)
  | ref (id off len : Nat)
  | pe (x : AV)
  | po (id i off : Nat)
  | top

/-- The cells of a value, as the memory has them. -/
def cellsOf : AV → List AV
  | .agg xs => xs
  | x => [x]

/-- All cells of a row of values. -/
def flat : List AV → List AV
  | [] => []
  | x :: xs => cellsOf x ++ flat xs

def uni (sz : Nat) (xs : List AV) : Prop := ∀ x ∈ xs, (cellsOf x).length = sz

theorem flat_length {sz : Nat} : ∀ {xs : List AV}, uni sz xs → (flat xs).length = xs.length * sz
  | [], _ => by simp [flat]
  | x :: xs, h => by
    have h1 := h x (by simp)
    have h2 := flat_length (xs := xs) (fun y hy => h y (by simp [hy]))
    simp [flat, h1, h2, Nat.add_mul, Nat.add_comm]

theorem flat_append : ∀ (xs ys : List AV), flat (xs ++ ys) = flat xs ++ flat ys
  | [], ys => by simp [flat]
  | x :: xs, ys => by simp [flat, flat_append xs ys]

theorem flat_get {sz : Nat} : ∀ {xs : List AV} {i j : Nat} {x : AV}, uni sz xs → xs[i]? = some x → j < sz → (flat xs)[i * sz + j]? = (cellsOf x)[j]?
  | [], i, j, x, _, h, _ => by simp at h
  | y :: xs, 0, j, x, hu, h, hj => by
    simp at h
    subst h
    have h1 := hu y (by simp)
    simp [flat]
    rw [List.getElem?_append_left (by omega)]
  | y :: xs, i + 1, j, x, hu, h, hj => by
    have h1 := hu y (by simp)
    have h2 := flat_get (xs := xs) (i := i) (j := j) (x := x) (fun z hz => hu z (by simp [hz])) (by simpa using h) hj
    simp only [flat]
    rw [List.getElem?_append_right (by rw [h1, Nat.add_mul]; omega), h1, ← h2]
    congr 1
    rw [Nat.add_mul]; omega

theorem flat_take {sz : Nat} : ∀ {xs : List AV} (n : Nat), uni sz xs → flat (xs.take n) = (flat xs).take (n * sz)
  | [], n, _ => by simp [flat]
  | x :: xs, 0, _ => by simp [flat]
  | x :: xs, n + 1, h => by
    have h1 := h x (by simp)
    have h2 := flat_take (xs := xs) n (fun y hy => h y (by simp [hy]))
    have e : (n + 1) * sz = sz + n * sz := by rw [Nat.add_mul]; omega
    simp only [List.take_succ_cons, flat, h2]
    rw [e, List.take_append, List.take_of_length_le (l := cellsOf x) (by omega), h1]
    congr 2
    omega

theorem flat_drop {sz : Nat} : ∀ {xs : List AV} (n : Nat), uni sz xs → flat (xs.drop n) = (flat xs).drop (n * sz)
  | [], n, _ => by simp [flat]
  | x :: xs, 0, _ => by simp
  | x :: xs, n + 1, h => by
    have h1 := h x (by simp)
    have h2 := flat_drop (xs := xs) n (fun y hy => h y (by simp [hy]))
    have e : (n + 1) * sz = sz + n * sz := by rw [Nat.add_mul]; omega
    simp only [List.drop_succ_cons, flat, h2]
    rw [e, List.drop_append, List.drop_of_length_le (l := cellsOf x) (by omega), h1, List.nil_append]
    congr 1
    omega

theorem uni_take {sz : Nat} {xs : List AV} (n : Nat) (h : uni sz xs) : uni sz (xs.take n) := fun x hx => h x (List.mem_of_mem_take hx)
theorem uni_drop {sz : Nat} {xs : List AV} (n : Nat) (h : uni sz xs) : uni sz (xs.drop n) := fun x hx => h x (List.mem_of_mem_drop hx)

/-- What a value reads as: `M` tells the blocks that it must keep off. -/
inductive Rep (w : World) (M : Nat → Prop) : AV → Value → Prop
  | val (v : Value) : Rep w M (.val v) v
  | top (v : Value) : Rep w M .top v
  | anyb (b : Bool) : Rep w M .anyb (.bool b)
  | agg (xs : List AV) (vs : Array Value) (hl : xs.length = vs.size) (hc : ∀ (i : Nat) x v, xs[i]? = some x → vs[i]? = some v → Rep w M x v) : Rep w M (.agg xs) (.agg vs)
  | tup (xs : List AV) (vs : Array Value) (hl : xs.length = vs.size) (hc : ∀ (i : Nat) x v, xs[i]? = some x → vs[i]? = some v → Rep w M x v) : Rep w M (.tup xs) (.tuple vs)
  | lst (xs : List AV) (a : Option Addr) (c sz b o : Nat) (f : Nat → Value) (hc : xs.length ≤ c) (hu : uni sz xs)
      (ha : 0 < xs.length → a = some ⟨b, o, none⟩ ∧ b < w.heap.size ∧ ¬ M b)
      (hcell : ∀ (j : Nat) y, (flat xs)[j]? = some y → w.cell? ⟨b, o + j, none⟩ = some (f j))
      (hrep : ∀ (j : Nat) y, (flat xs)[j]? = some y → Rep w M y (f j)) : Rep w M (.lst xs) (.slice a xs.length c)
  | pe (x : AV) (b o : Nat) (f : Nat → Value) (hb : b < w.heap.size) (hM : ¬ M b)
      (hcell : ∀ (j : Nat) y, (cellsOf x)[j]? = some y → w.cell? ⟨b, o + j, none⟩ = some (f j))
      (hrep : ∀ (j : Nat) y, (cellsOf x)[j]? = some y → Rep w M y (f j)) : Rep w M (.pe x) (.pointer (some ⟨b, o, none⟩))

theorem World.cell?_congr {w w' : World} {b o : Nat} (h : w'.heap[b]? = w.heap[b]?) : w'.cell? ⟨b, o, none⟩ = w.cell? ⟨b, o, none⟩ := World.cell?_of_block (a := ⟨b, o, none⟩) h

/-- Kept while the blocks outside of `M` are as they were. -/
theorem Rep.keep {w w' : World} {M M' : Nat → Prop} (hs : w.heap.size ≤ w'.heap.size) (hk : ∀ b, b < w.heap.size → ¬ M b → w'.heap[b]? = w.heap[b]?)
    (hM : ∀ b, b < w.heap.size → M' b → M b) {x : AV} {v : Value} (h : Rep w M x v) : Rep w' M' x v := by
  induction h with
  | val v => exact .val v
  | top v => exact .top v
  | anyb b => exact .anyb b
  | agg xs vs hl _ ih => exact .agg xs vs hl ih
  | tup xs vs hl _ ih => exact .tup xs vs hl ih
  | lst xs a c sz b o f hc hu ha hcell hrep ih =>
    refine .lst xs a c sz b o f hc hu (fun h0 => ?_) (fun j y hy => ?_) ih
    · obtain ⟨h1, h2, h3⟩ := ha h0
      exact ⟨h1, by omega, fun hm => h3 (hM b h2 hm)⟩
    · have h0 : 0 < xs.length := by
        cases xs with
        | nil => simp [flat] at hy
        | cons _ _ => simp
      obtain ⟨h1, h2, h3⟩ := ha h0
      rw [World.cell?_congr (hk b h2 h3)]
      exact hcell j y hy
  | pe x b o f hb hM' hcell hrep ih =>
    exact .pe x b o f (by omega) (fun hm => hM' (hM b hb hm)) (fun j y hy => by rw [World.cell?_congr (hk b hb hM')]; exact hcell j y hy) ih

/-- A row of values reads as a row of abstract ones. -/
def RepL (w : World) (M : Nat → Prop) (xs : List AV) (vs : List Value) : Prop := xs.length = vs.length ∧ ∀ (i : Nat) x v, xs[i]? = some x → vs[i]? = some v → Rep w M x v

theorem RepL.nil {w : World} {M : Nat → Prop} : RepL w M [] [] := ⟨rfl, fun i x v h => by simp at h⟩
theorem RepL.cons {w : World} {M : Nat → Prop} {x : AV} {v : Value} {xs : List AV} {vs : List Value} (h : Rep w M x v) (hs : RepL w M xs vs) : RepL w M (x :: xs) (v :: vs) :=
  ⟨by simp [hs.1], fun i y u hy hu => by
    cases i with
    | zero => simp at hy hu; subst hy; subst hu; exact h
    | succ i => exact hs.2 i y u (by simpa using hy) (by simpa using hu)⟩
theorem RepL.keep {w w' : World} {M M' : Nat → Prop} (hs : w.heap.size ≤ w'.heap.size) (hk : ∀ b, b < w.heap.size → ¬ M b → w'.heap[b]? = w.heap[b]?)
    (hM : ∀ b, b < w.heap.size → M' b → M b) {xs : List AV} {vs : List Value} (h : RepL w M xs vs) : RepL w' M' xs vs :=
  ⟨h.1, fun i x v hx hv => (h.2 i x v hx hv).keep hs hk hM⟩
theorem RepL.get {w : World} {M : Nat → Prop} {xs : List AV} {vs : List Value} (h : RepL w M xs vs) {i : Nat} {x : AV} (hx : xs[i]? = some x) : ∃ v, vs[i]? = some v ∧ Rep w M x v := by
  have hi : i < vs.length := by have := (List.getElem?_eq_some_iff.1 hx).1; rw [← h.1]; exact this
  exact ⟨vs[i], List.getElem?_eq_getElem hi, h.2 i x _ hx (List.getElem?_eq_getElem hi)⟩
theorem RepL.append {w : World} {M : Nat → Prop} {xs ys : List AV} {vs us : List Value} (h : RepL w M xs vs) (k : RepL w M ys us) : RepL w M (xs ++ ys) (vs ++ us) := by
  refine ⟨by simp [h.1, k.1], fun i x v hx hv => ?_⟩
  rcases Nat.lt_or_ge i xs.length with hi | hi
  · rw [List.getElem?_append_left hi] at hx
    rw [List.getElem?_append_left (by rw [← h.1]; exact hi)] at hv
    exact h.2 i x v hx hv
  · rw [List.getElem?_append_right hi] at hx
    rw [List.getElem?_append_right (by rw [← h.1]; exact hi), ← h.1] at hv
    exact k.2 _ x v hx hv

/-- An abstract value that takes one cell. -/
def cellAV : AV → Bool
  | .val v => v.oneCell'
  | .anyb | .lst _ | .pe _ => true
  | _ => false
theorem Rep.oneCell {w : World} {M : Nat → Prop} {x : AV} {v : Value} (h : Rep w M x v) (hx : cellAV x = true) : v.oneCell' = true := by
  cases h <;> first | exact hx | rfl | (simp [cellAV] at hx)

theorem Rep.cells {w : World} {M : Nat → Prop} {x : AV} {v : Value} (h : Rep w M x v) (hx : (cellsOf x).all cellAV = true) : RepL w M (cellsOf x) v.cells.toList ∧ ∀ u ∈ v.cells.toList, u.oneCell' = true := by
  have one : ∀ {y : AV} {u : Value}, Rep w M y u → cellsOf y = [y] → cellAV y = true → RepL w M (cellsOf y) u.cells.toList ∧ ∀ z ∈ u.cells.toList, z.oneCell' = true := by
    intro y u hy hc h1
    have h2 := hy.oneCell h1
    have h3 : u.cells = #[u] := by cases u <;> first | rfl | (simp [Value.oneCell'] at h2)
    rw [hc, h3]
    exact ⟨.cons hy .nil, by simpa using h2⟩
  cases h with
  | agg xs vs hl hc =>
    simp only [cellsOf] at hx ⊢
    have hR : RepL w M xs (Value.agg vs).cells.toList := ⟨by simp [Value.cells, hl], fun i x v hx hv => hc i x v hx (by simpa [Value.cells] using hv)⟩
    refine ⟨hR, fun u hu => ?_⟩
    obtain ⟨i, hi, rfl⟩ := List.mem_iff_getElem.1 hu
    have hi' : i < xs.length := by rw [hR.1]; exact hi
    exact (hR.2 i xs[i] _ (List.getElem?_eq_getElem hi') (List.getElem?_eq_getElem hi)).oneCell (List.all_eq_true.1 hx _ (List.getElem_mem hi'))
  | val v => exact one (.val v) rfl (by simpa [cellsOf] using hx)
  | top v => simp [cellsOf, cellAV] at hx
  | anyb b => exact one (.anyb b) rfl rfl
  | tup xs vs hl hc => simp [cellsOf, cellAV] at hx
  | lst xs a c sz b o f h1 h2 h3 h4 h5 => exact one (.lst xs a c sz b o f h1 h2 h3 h4 h5) rfl rfl
  | pe x b o f h1 h2 h3 h4 => exact one (.pe x b o f h1 h2 h3 h4) rfl rfl

end Go.Abs

/- The abstract state of a call: what its temporaries read as, and the buffers that it may write. -/
namespace Go.Abs
open Go Go.RowKit

structure Buf where
  e : TypeId
  sz : Nat
  xs : List AV
  hdr : Option Value

/-- What a call began with: its world, where its own rows begin, and which of the blocks that were there stay as they were. -/
structure Bs where
  w : World
  base : Nat
  F : Nat → Prop
  hb : base ≤ w.heap.size

structure Kept (w0 : Bs) (w : World) : Prop where
  os : w.os = w0.w.os
  tape : w.tape = w0.w.tape
  output : w.output = w0.w.output
  size : w0.w.heap.size ≤ w.heap.size
  block : ∀ k, k < w0.w.heap.size → w0.F k → w.heap[k]? = w0.w.heap[k]?
theorem Kept.base_le {w0 : Bs} {w : World} (h : Kept w0 w) : w0.base ≤ w.heap.size := Nat.le_trans w0.hb h.size
theorem Kept.grow {w0 : Bs} {w w' : World} (h : Kept w0 w) (hb : Below w.heap.size w w') : Kept w0 w' :=
  ⟨hb.os.trans h.os, hb.tape.trans h.tape, hb.output.trans h.output, Nat.le_trans h.size hb.size, fun k hk hf => (hb.block k (Nat.lt_of_lt_of_le hk h.size)).trans (h.block k hk hf)⟩
theorem Kept.grown {w0 : Bs} {w w' : World} {row : Option Nat} (h : Kept w0 w) (hg : w.grownBy w' row) (hr : ∀ k, row = some k → ¬ (k < w0.w.heap.size ∧ w0.F k)) : Kept w0 w' :=
  ⟨hg.os.trans h.os, hg.tape.trans h.tape, hg.output.trans h.output, Nat.le_trans h.size hg.size, fun k hk hf => (hg.block k (Nat.lt_of_lt_of_le hk h.size) (fun e => hr k e.symm ⟨hk, hf⟩)).trans (h.block k hk hf)⟩

abbrev Hp := Nat → Option Buf
def upd {α : Type} (f : Nat → α) (i : Nat) (v : α) : Nat → α := fun j => if j = i then v else f j
theorem upd_same {α : Type} (f : Nat → α) (i : Nat) (v : α) : upd f i v i = v := by simp [upd]
theorem upd_ne {α : Type} (f : Nat → α) {i j : Nat} (v : α) (h : j ≠ i) : upd f i v j = f j := by simp [upd, h]

structure St where
  t : Nat → AV
  h : Hp

def refId : AV → Option Nat
  | .own id => some id
  | .ref id _ _ => some id
  | .po id _ _ => some id
  | _ => none

def inM (M0 : Nat → Prop) (ρ : Nat → Value) (h : Hp) (b : Nat) : Prop := M0 b ∨ ∃ id bf, h id = some bf ∧ (ρ id).ownBlock = some b

def OwnB (w : World) (M : Nat → Prop) (base : Nat) (v : Value) (b : Buf) : Prop :=
  uni b.sz b.xs ∧ 0 < b.sz ∧ ∃ vs, w.ownsRow base b.e b.sz v b.xs.length vs ∧ RepL w M (flat b.xs) vs

structure SimH (M0 : Nat → Prop) (w0 : Bs) (ρ : Nat → Value) (h : Hp) (w : World) : Prop where
  below : Kept w0 w
  off : ∀ id b k, h id = some b → (ρ id).ownBlock = some k → ¬ (k < w0.w.heap.size ∧ w0.F k)
  hdr : ∀ id b u, h id = some b → b.hdr = some u → ρ id = u
  m0 : ∀ b, M0 b → b < w0.base
  own : ∀ id b, h id = some b → OwnB w (inM M0 ρ h) w0.base (ρ id) b
  apart : ∀ i j bi bj k, i ≠ j → h i = some bi → h j = some bj → (ρ i).ownBlock = some k → (ρ j).ownBlock ≠ some k

/-- What an abstract value, own rows' among them, stands for. -/
def RepT (w : World) (M : Nat → Prop) (ρ : Nat → Value) (h : Hp) : AV → Value → Prop
  | .own id, v => ∃ b, h id = some b ∧ v = ρ id
  | .ref id off len, v => ∃ b, h id = some b ∧ off + len ≤ b.xs.length ∧ ∃ a c, v = .slice a len c ∧ len ≤ c ∧ (0 < len → ∃ g n cap, ρ id = .slice (some ⟨g, 0, none⟩) n cap ∧ a = some ⟨g, off * b.sz, none⟩)
  | .po id i off, v => ∃ b, h id = some b ∧ i < b.xs.length ∧ ∃ g n cap, ρ id = .slice (some ⟨g, 0, none⟩) n cap ∧ v = .pointer (some ⟨g, i * b.sz + off, none⟩)
  | x, v => Rep w M x v

theorem RepT.of_rep {w : World} {M : Nat → Prop} {ρ : Nat → Value} {h : Hp} {x : AV} {v : Value} (hr : Rep w M x v) : RepT w M ρ h x v := by
  cases hr <;> (unfold RepT; first | exact .val _ | exact .top _ | exact .anyb _ | (constructor <;> assumption))
theorem RepT.rep {w : World} {M : Nat → Prop} {ρ : Nat → Value} {h : Hp} {x : AV} {v : Value} (hx : refId x = none) (hr : RepT w M ρ h x v) : Rep w M x v := by
  cases x <;> first | exact hr | (simp [refId] at hx)

/-- The facts on an own row that are kept while its length, place and row stay. -/
theorem RepT.keep {w w' : World} {M M' : Nat → Prop} {ρ ρ' : Nat → Value} {h h' : Hp} (hs : w.heap.size ≤ w'.heap.size)
    (hk : ∀ b, b < w.heap.size → ¬ M b → w'.heap[b]? = w.heap[b]?) (hM : ∀ b, b < w.heap.size → M' b → M b) {x : AV} {v : Value}
    (hid : ∀ id b, refId x = some id → h id = some b → ∃ b', h' id = some b' ∧ ρ' id = ρ id ∧ b'.sz = b.sz ∧ b.xs.length ≤ b'.xs.length)
    (hr : RepT w M ρ h x v) : RepT w' M' ρ' h' x v := by
  cases x with
  | own id =>
    obtain ⟨b, hb, rfl⟩ := hr
    obtain ⟨b', h1, h2, h3, h4⟩ := hid id b rfl hb
    exact ⟨b', h1, h2.symm⟩
  | ref id off len =>
    obtain ⟨b, hb, h0, a, c, h1, h2, h3⟩ := hr
    obtain ⟨b', g1, g2, g3, g4⟩ := hid id b rfl hb
    exact ⟨b', g1, by omega, a, c, h1, h2, by rw [g2, g3]; exact h3⟩
  | po id i off =>
    obtain ⟨b, hb, h0, g, n, cap, h1, h2⟩ := hr
    obtain ⟨b', g1, g2, g3, g4⟩ := hid id b rfl hb
    exact ⟨b', g1, by omega, g, n, cap, by rw [g2]; exact h1, by rw [g3]; exact h2⟩
  | _ => exact Rep.keep hs hk hM (show Rep w M _ v from hr)

structure Sim (n : Nat) (M0 : Nat → Prop) (w0 : Bs) (ρ : Nat → Value) (σ : St) (a : Act) (w : World) : Prop where
  size : a.tmps.size = n
  defers : a.defers = []
  hp : SimH M0 w0 ρ σ.h w
  tm : ∀ t, RepT w (inM M0 ρ σ.h) ρ σ.h (σ.t t) (a.tmps.getD t undef)

def St.set (σ : St) (d : Option Nat) (v : AV) : St := match d with
  | some d => ⟨upd σ.t d v, σ.h⟩
  | none => σ

theorem Sim.put {n : Nat} {M0 : Nat → Prop} {w0 : Bs} {ρ ρ' : Nat → Value} {σ : St} {h' : Hp} {a : Act} {w w' : World} {d : Option Nat} {x : AV} {v : Value}
    (hs : Sim n M0 w0 ρ σ a w) (hd : ∀ t, d = some t → t < n) (hp : SimH M0 w0 ρ' h' w')
    (hk : ∀ x v, RepT w (inM M0 ρ σ.h) ρ σ.h x v → (∃ t, x = σ.t t) → RepT w' (inM M0 ρ' h') ρ' h' x v)
    (hv : RepT w' (inM M0 ρ' h') ρ' h' x v) : Sim n M0 w0 ρ' ⟨(σ.set d x).t, h'⟩ (a.put d v) w' := by
  cases d with
  | none => exact ⟨hs.size, hs.defers, hp, fun t => hk _ _ (hs.tm t) ⟨t, rfl⟩⟩
  | some d =>
    refine ⟨by simpa [Act.put] using hs.size, hs.defers, hp, fun t => ?_⟩
    have hlt : d < a.tmps.size := by rw [hs.size]; exact hd d rfl
    by_cases ht : t = d
    · subst ht
      simpa [St.set, upd, Act.put, hlt] using hv
    · have : (a.put (some d) v).tmps.getD t undef = a.tmps.getD t undef := by
        simp [Act.put, Array.getElem?_setIfInBounds_ne (Ne.symm ht)]
      rw [this]
      simp only [St.set, upd, ht, if_false]
      exact hk _ _ (hs.tm t) ⟨t, rfl⟩

/-- An operation that leaves the world as it is. -/
theorem Sim.put_same {n : Nat} {M0 : Nat → Prop} {w0 : Bs} {ρ : Nat → Value} {σ : St} {a : Act} {w : World} {d : Option Nat} {x : AV} {v : Value}
    (hs : Sim n M0 w0 ρ σ a w) (hd : ∀ t, d = some t → t < n) (hv : RepT w (inM M0 ρ σ.h) ρ σ.h x v) : Sim n M0 w0 ρ (σ.set d x) (a.put d v) w := by
  have := Sim.put (d := d) (h' := σ.h) hs hd hs.hp (fun x v h _ => h) hv
  have e : (⟨(σ.set d x).t, σ.h⟩ : St) = σ.set d x := by cases d <;> rfl
  rwa [e] at this

/-! ### Worlds that grow -/
theorem OwnB.keep {w w' : World} {M M' : Nat → Prop} {base : Nat} {v : Value} {b : Buf} (hg : w.grownBy w' none ∨ ∃ row, w.grownBy w' row ∧ (v.ownBlock = none ∨ v.ownBlock ≠ row))
    (hk : ∀ b, b < w.heap.size → ¬ M b → w'.heap[b]? = w.heap[b]?) (hM : ∀ b, b < w.heap.size → M' b → M b) (h : OwnB w M base v b) : OwnB w' M' base v b := by
  obtain ⟨h1, h2, vs, h3, h4⟩ := h
  have hsz : w.heap.size ≤ w'.heap.size := by rcases hg with hg | ⟨_, hg, _⟩ <;> exact hg.size
  refine ⟨h1, h2, vs, ?_, h4.keep hsz hk hM⟩
  rcases hg with hg | ⟨row, hg, hne⟩
  · exact h3.kept hg (by cases v.ownBlock <;> simp)
  · exact h3.kept hg hne

theorem OwnB.lt {w : World} {M : Nat → Prop} {base : Nat} {v : Value} {b : Buf} (h : OwnB w M base v b) : ∀ k, v.ownBlock = some k → base ≤ k ∧ k < w.heap.size := by
  obtain ⟨_, _, vs, h3, _⟩ := h
  exact h3.lt

/-- The world grew and no block that was there has turned. -/
theorem SimH.grow {M0 : Nat → Prop} {w0 : Bs} {ρ : Nat → Value} {h : Hp} {w w' : World} (hs : SimH M0 w0 ρ h w) (hb : Below w.heap.size w w') : SimH M0 w0 ρ h w' := by
  have hg : w.grownBy w' none := ⟨hb.os, hb.tape, hb.output, hb.size, fun k hk _ => hb.block k hk⟩
  refine ⟨hs.below.grow hb, hs.off, hs.hdr, hs.m0, fun id b hid => (hs.own id b hid).keep (.inl hg) (fun b hb' _ => hb.block b hb') (fun b _ h => h), hs.apart⟩

theorem RepT.grow {w w' : World} {M : Nat → Prop} {ρ : Nat → Value} {h : Hp} (hb : Below w.heap.size w w') {x : AV} {v : Value} (hr : RepT w M ρ h x v) : RepT w' M ρ h x v :=
  hr.keep hb.size (fun b h _ => hb.block b h) (fun _ _ h => h) (fun id b _ h => ⟨b, h, rfl, rfl, Nat.le_refl _⟩)

theorem inM_upd_new {M0 : Nat → Prop} {ρ : Nat → Value} {h : Hp} {id : Nat} {v : Value} {b : Buf} {k : Nat} (hn : h id = none) (hk : inM M0 (upd ρ id v) (upd h id (some b)) k) :
    inM M0 ρ h k ∨ v.ownBlock = some k := by
  rcases hk with hk | ⟨i, bf, h1, h2⟩
  · exact .inl (.inl hk)
  · by_cases hi : i = id
    · subst hi
      rw [upd_same] at h2
      exact .inr h2
    · rw [upd_ne _ _ hi] at h1 h2
      exact .inl (.inr ⟨i, bf, h1, h2⟩)

/-- A new own row. -/
theorem SimH.fresh {M0 : Nat → Prop} {w0 : Bs} {ρ : Nat → Value} {h : Hp} {w w' : World} {id : Nat} {v : Value} {b : Buf} (hs : SimH M0 w0 ρ h w) (hb : Below w.heap.size w w')
    (hn : h id = none) (hnone : b.hdr = none) (hnew : ∀ k, v.ownBlock = some k → w.heap.size ≤ k) (hown : OwnB w' (inM M0 (upd ρ id v) (upd h id (some b))) w0.base v b) :
    SimH M0 w0 (upd ρ id v) (upd h id (some b)) w' := by
  have hs' := hs.grow hb
  have hM : ∀ k, k < w.heap.size → inM M0 (upd ρ id v) (upd h id (some b)) k → inM M0 ρ h k := fun k hk hm => (inM_upd_new hn hm).resolve_right (fun hv => by have := hnew k hv; omega)
  refine ⟨hs'.below, fun i bi k hi hki => ?_, fun i bi u hi hu => ?_, hs.m0, fun i bi hi => ?_, fun i j bi bj k hij hi hj hki hkj => ?_⟩
  · by_cases hid : i = id
    · subst hid
      rw [upd_same] at hki
      have := hnew k hki
      have := hs.below.size
      exact fun hc => by omega
    · rw [upd_ne _ _ hid] at hi hki
      exact hs.off i bi k hi hki
  · by_cases hid : i = id
    · subst hid
      rw [upd_same] at hi
      cases hi
      rw [hnone] at hu; cases hu
    · rw [upd_ne _ _ hid] at hi ⊢
      exact hs.hdr i bi u hi hu
  · by_cases hid : i = id
    · subst hid
      rw [upd_same] at hi ⊢
      injection hi with hi
      subst hi
      exact hown
    · rw [upd_ne _ _ hid] at hi ⊢
      exact (hs.own i bi hi).keep (.inl ⟨hb.os, hb.tape, hb.output, hb.size, fun k hk _ => hb.block k hk⟩) (fun k hk _ => hb.block k hk) hM
  · by_cases hid : i = id
    · subst hid
      rw [upd_same] at hki
      rw [upd_ne _ _ (Ne.symm hij)] at hj hkj
      have := (hs.own j bj hj).lt k hkj
      have := hnew k hki
      omega
    · by_cases hjd : j = id
      · subst hjd
        rw [upd_same] at hkj
        rw [upd_ne _ _ hid] at hi hki
        have := (hs.own i bi hi).lt k hki
        have := hnew k hkj
        omega
      · rw [upd_ne _ _ hid] at hi hki
        rw [upd_ne _ _ hjd] at hj hkj
        exact hs.apart i j bi bj k hij hi hj hki hkj

theorem RepT.fresh {w w' : World} {M0 : Nat → Prop} {ρ : Nat → Value} {h : Hp} {id : Nat} {u : Value} {b : Buf} (hb : Below w.heap.size w w') (hn : h id = none)
    (hnew : ∀ k, u.ownBlock = some k → w.heap.size ≤ k) {x : AV} {v : Value} (hr : RepT w (inM M0 ρ h) ρ h x v) :
    RepT w' (inM M0 (upd ρ id u) (upd h id (some b))) (upd ρ id u) (upd h id (some b)) x v :=
  hr.keep hb.size (fun k hk _ => hb.block k hk) (fun k hk hm => (inM_upd_new hn hm).resolve_right (fun hv => by have := hnew k hv; omega))
    (fun i bi _ hi => by
      have hne : i ≠ id := fun e => by subst e; rw [hn] at hi; cases hi
      exact ⟨bi, by rw [upd_ne _ _ hne]; exact hi, upd_ne _ _ hne, rfl, Nat.le_refl _⟩)

end Go.Abs

/- One operation on the abstract state. -/
namespace Go.Abs
open Go Go.RowKit

inductive Sh where
  | int (k : IntKind)
  | bool
  | str
  | slice (e : TypeId) (sz bytes : Nat) (z : AV) (ek : Option IntKind)
  | struct (fs : List (Nat × Nat × Bool)) (sz : Nat) (z : AV)
  | other

def isAggB (P : Program) (t : TypeId) : Bool := match P.underlying t with
  | some (.struct _) | some (.array _ _) => true
  | _ => false

def ShOK (P : Program) (t : TypeId) : Sh → Prop
  | .int k => P.underlying t = some (.int k) ∧ (P.info? t).map (·.size) = some 1
  | .bool => P.underlying t = some .bool ∧ (P.info? t).map (·.size) = some 1
  | .str => P.underlying t = some .string ∧ (P.info? t).map (·.size) = some 1
  | .slice e sz bytes z ek => P.underlying t = some (.slice e) ∧ (P.info? t).map (·.size) = some 1 ∧ 0 < sz ∧ (∀ k, ek = some k → P.underlying e = some (.int k)) ∧ ∃ i zv, P.info? e = some i ∧ i.size = sz ∧ i.bytes = bytes ∧ i.zero = some zv ∧ zv.cells.size = sz ∧ (cellsOf z).length = sz ∧ ∀ w M, RepL w M (cellsOf z) zv.cells.toList
  | .struct fs sz z => ∃ fields i zv, P.underlying t = some (.struct fields) ∧ P.info? t = some i ∧ i.size = sz ∧ i.zero = some zv ∧ zv.cells.size = sz ∧ (cellsOf z).length = sz ∧
      (∀ w M, RepL w M (cellsOf z) zv.cells.toList) ∧ ∀ (j : Nat) f, fs[j]? = some f → ∃ fd fi, fields[j]? = some fd ∧ fd.offset = f.1 ∧ P.info? fd.type = some fi ∧ fi.size = f.2.1 ∧ 0 < f.2.1 ∧ isAggB P fd.type = f.2.2 ∧ f.1 + f.2.1 ≤ sz ∧ (P.underlying fd.type).isSome = true
  | .other => True

inductive Spec where
  | none
  | pure (f : List AV → Option AV)
  | owned (f : List AV → Option Buf)
  | inpl (f : List AV → Hp → Option (AV × Hp))

def vInt (k : IntKind) (n : Int) : AV := .val (.int k n)
def vBool (b : Bool) : AV := .val (.bool b)
def vStr (s : ByteArray) : AV := .val (.string s)

/-- `&`, `|`, `^`, `&^` of an integer kind. -/
def bitsOp (op : BinOp) (k : IntKind) (a b : Int) : Int :=
  let x := BitVec.ofInt k.bits a
  let y := BitVec.ofInt k.bits b
  match op with
  | .and => k.wrap (x &&& y).toNat
  | .or => k.wrap (x ||| y).toNat
  | .xor => k.wrap (x ^^^ y).toNat
  | _ => k.wrap (x &&& ~~~y).toNat

def iBin (op : BinOp) (k k' : IntKind) (a b : Int) : Option AV :=
  match op with
  | .shl => if 0 ≤ b then some (vInt k (k.wrap (a * 2 ^ min b.toNat k.bits))) else none
  | .shr => if 0 ≤ b then some (vInt k (a.fdiv (2 ^ min b.toNat k.bits))) else none
  | .add => if k = k' then some (vInt k (k.wrap (a + b))) else none
  | .sub => if k = k' then some (vInt k (k.wrap (a - b))) else none
  | .mul => if k = k' then some (vInt k (k.wrap (a * b))) else none
  | .quo => if k = k' then (if b = 0 then none else some (vInt k (k.wrap (a.tdiv b)))) else none
  | .rem => if k = k' then (if b = 0 then none else some (vInt k (a.tmod b))) else none
  | .and => if k = k' then some (vInt k (bitsOp .and k a b)) else none
  | .or => if k = k' then some (vInt k (bitsOp .or k a b)) else none
  | .xor => if k = k' then some (vInt k (bitsOp .xor k a b)) else none
  | .andNot => if k = k' then some (vInt k (bitsOp .andNot k a b)) else none
  | .eql => if k = k' then some (vBool (a == b)) else none
  | .neq => if k = k' then some (vBool (a != b)) else none
  | .lss => if k = k' then some (vBool (decide (a < b))) else none
  | .leq => if k = k' then some (vBool (decide (a ≤ b))) else none
  | .gtr => if k = k' then some (vBool (decide (a > b))) else none
  | .geq => if k = k' then some (vBool (decide (a ≥ b))) else none

def sBin (op : BinOp) (a b : ByteArray) : Option AV :=
  match op with
  | .add => if a.size + b.size ≤ 9223372036854775807 then some (vStr (a ++ b)) else none
  | .eql => some (vBool (a.toList == b.toList))
  | .neq => some (vBool (!(a.toList == b.toList)))
  | _ => none

def aBin (op : BinOp) (sh : Sh) (x y : AV) : Option AV :=
  match x, y with
  | .val (.int k a), .val (.int k' b) => iBin op k k' a b
  | .val (.string a), .val (.string b) => sBin op a b
  | .val (.bool a), .val (.bool b) => match sh, op with
    | .bool, .eql => some (vBool (a == b))
    | .bool, .neq => some (vBool (!(a == b)))
    | _, _ => none
  | .lst xs, .val (.slice none 0 0) => match sh, op with
    | .slice .., .eql => if xs.isEmpty then some .anyb else some (vBool false)
    | .slice .., .neq => if xs.isEmpty then some .anyb else some (vBool true)
    | _, _ => none
  | _, _ => none

def aUn (op : UnOp) (x : AV) : Option AV :=
  match op, x with
  | .not, .val (.bool b) => some (vBool (!b))
  | .neg, .val (.int k n) => some (vInt k (k.wrap (0 - n)))
  | .xor, .val (.int k n) => some (vInt k (bitsOp .xor k (if k.signed then -1 else k.max) n))
  | _, _ => none

def asInts (k : IntKind) : List AV → Option (List Int)
  | [] => some []
  | .val (.int k' n) :: xs => if k' = k then (asInts k xs).map (n :: ·) else none
  | _ :: _ => none
def ints (k : IntKind) (L : List Int) : List AV := L.map (vInt k)
theorem asInts_ints (k : IntKind) : ∀ L, asInts k (ints k L) = some L
  | [] => rfl
  | n :: L => by
    have := asInts_ints k L
    simp only [ints] at this
    simp [ints, asInts, vInt, this]
theorem asInts_some {k : IntKind} : ∀ {xs : List AV} {L : List Int}, asInts k xs = some L → xs = ints k L
  | [], L, h => by simp [asInts] at h; subst h; rfl
  | x :: xs, L, h => by
    unfold asInts at h
    split at h
    · cases h; rename_i e; cases e
    · rename_i k' n ys e
      cases e
      split at h
      · rename_i hk
        subst hk
        cases hq : asInts k' xs with
        | none => simp [hq] at h
        | some M =>
          simp [hq] at h
          subst h
          simp [ints, vInt, asInts_some hq]
      · simp at h
    · simp at h

/-- The elements that a slice's value reads as. -/
def elems (h : Hp) : AV → Option (List AV)
  | .lst xs => some xs
  | .val (.slice none 0 0) => some []
  | .own id => (h id).map (·.xs)
  | .ref id off len => (h id).map fun b => (b.xs.drop off).take len
  | _ => none

def aConv (sh1 sh2 : Sh) (x : AV) (h : Hp) : Option AV :=
  match sh2, x with
  | .int k, .val (.int _ n) => match sh1 with
    | .other => none
    | _ => some (vInt k (k.wrap n))
  | .str, .val (.string s) => match sh1 with
    | .str => some (vStr s)
    | _ => none
  | .str, x => match sh1, elems h x with
    | .slice _ 1 _ _ (some .u8), some xs => (asInts .u8 xs).map fun L => vStr (strOfNums L)
    | _, _ => none
  | _, _ => none

def lenAV (h : Hp) : AV → Option Int
  | .lst xs => some xs.length
  | .val (.slice none 0 0) => some 0
  | .val (.string s) => some s.size
  | .own id => (h id).map fun b => (b.xs.length : Int)
  | .ref _ _ len => some len
  | _ => none

/-- What is handed on as a value that is only read. -/
def frz (h : Hp) : AV → AV
  | .val (.slice none 0 0) => .lst []
  | .own id => match h id with | some b => .lst b.xs | none => .top
  | .ref id off len => match h id with | some b => .lst ((b.xs.drop off).take len) | none => .top
  | .po _ _ _ => .top
  | x => x

def notAgg : AV → Bool
  | .agg _ => false
  | _ => true

/-- A value, of whatever memory it is told: without rows. -/
def scalarAV : AV → Bool
  | .val _ | .anyb => true
  | .tup xs => xs.all fun | .val _ | .anyb => true | _ => false
  | .agg xs => xs.all fun | .val _ | .anyb => true | _ => false
  | _ => false

def intOf? : AV → Option Int
  | .val (.int _ n) => some n
  | _ => none

def aIndex (sz : Nat) (h : Hp) (x : AV) (i : Int) : Option AV :=
  match x with
  | .lst xs => if 0 ≤ i ∧ i < xs.length ∧ (cellsOf (xs.getD i.toNat .top)).length = sz then some (.pe (xs.getD i.toNat .top)) else none
  | .own id => match h id with
    | some b => if 0 ≤ i ∧ i < b.xs.length ∧ b.sz = sz then some (.po id i.toNat 0) else none
    | none => none
  | .ref id off len => match h id with
    | some b => if 0 ≤ i ∧ i < len ∧ b.sz = sz then some (.po id (off + i.toNat) 0) else none
    | none => none
  | _ => none
def uniB (sz : Nat) (xs : List AV) : Bool := xs.all fun x => (cellsOf x).length == sz

/-- A variable of a type, out of cells. -/
def takeVar (sh : Sh) (cs : List AV) : Option AV :=
  match sh with
  | .other => none
  | .struct _ sz _ => if sz ≤ cs.length then some (.agg (cs.take sz)) else none
  | _ => cs.head?

def aLoad (sh : Sh) (h : Hp) (p : AV) : Option AV :=
  match p with
  | .pe x => takeVar sh (cellsOf x)
  | .po id i off => match h id with
    | some b => takeVar sh ((cellsOf (b.xs.getD i .top)).drop off)
    | none => none
  | _ => none

def aStore (sh : Sh) (h : Hp) (p v : AV) : Option Hp :=
  match p with
  | .po id i off => match h id with
    | some b => match sh with
      | .other => none
      | .struct _ sz _ => if off = 0 ∧ sz = b.sz ∧ (cellsOf v).length = sz ∧ (cellsOf v).all cellAV = true ∧ notAgg v = false ∧ i < b.xs.length then some (upd h id (some { b with xs := b.xs.set i v })) else none
      | _ => if b.sz = 1 ∧ off = 0 ∧ notAgg v = true ∧ cellAV v = true ∧ i < b.xs.length ∧ notAgg (b.xs.getD i .top) = true then some (upd h id (some { b with xs := b.xs.set i v })) else none
    | none => none
  | _ => none

def bound? (ev : Operand → AV) (d : Int) : Option Operand → Option Int
  | none => some d
  | some x => intOf? (ev x)

def aSlice (sh : Sh) (h : Hp) (x : AV) (lo hi mx : Option Int) : Option AV :=
  match lenAV h x, lo, hi, mx with
  | some n, some l, some m, some c =>
    if 0 ≤ l ∧ l ≤ m ∧ m ≤ n ∧ m = c then
      match sh, x with
      | .slice _ sz _ _ _, .lst xs => if l = 0 ∨ uniB sz xs = true then some (.lst ((xs.take m.toNat).drop l.toNat)) else none
      | .slice _ sz _ _ _, .ref id off _ => if (h id).any (fun b => b.sz == sz) = true then some (.ref id (off + l.toNat) (m - l).toNat) else none
      | .slice _ sz _ _ _, .own id => if (h id).any (fun b => b.sz == sz) = true then some (.ref id l.toNat (m - l).toNat) else none
      | .str, .val (.string s) => some (vStr (s.extract l.toNat m.toNat))
      | _, _ => none
    else none
  | _, _, _, _ => none

def kill (id : Nat) (x : AV) : AV := if refId x = some id then .top else x
def killAll (ids : List Nat) (x : AV) : AV := match refId x with
  | some id => if id ∈ ids then .top else x
  | none => x
def eraseAll (ids : List Nat) (h : Hp) : Hp := fun i => if i ∈ ids then none else h i

/-- The function that a value calls. -/
def fnOf : AV → Option FuncId
  | .val (.func (.func f) fst cap) => if fst.size = 0 ∧ cap.size = 0 then some f else none
  | _ => none

def idxOk : List (Nat × Operand) → Nat → Bool
  | [], _ => true
  | (i, _) :: r, n => i == n && idxOk r (n + 1)

def elemOk (sz : Nat) (x : AV) : Bool := ((cellsOf x).length == sz) && (cellsOf x).all cellAV && (sz == 1 || !notAgg x) && (sz != 1 || notAgg x)

def ev (σ : St) : Operand → AV
  | .tmp t => σ.t t
  | .const v => .val v
  | .func f => .val (.func (.func f) #[] #[])
  | .global _ => .top

def aAppend (sh : Sh) (σ : St) (d : Nat) (s x : AV) : Option St :=
  match sh, elems σ.h x with
  | .slice e sz bytes _ _, some ys =>
    match s with
    | .own id => match σ.h id with
      | some b => if b.e = e ∧ b.sz = sz ∧ ys.all (elemOk sz) = true ∧ (b.xs.length + ys.length) * bytes ≤ 140737488355328 ∧ b.xs.length + ys.length ≤ 9223372036854775807 ∧ refId x ≠ some id then
          some ⟨upd (fun t => kill id (σ.t t)) d (.own id), upd σ.h id (some ⟨e, sz, b.xs ++ ys, none⟩)⟩ else none
      | none => none
    | .val (.slice none 0 0) => if ys.all (elemOk sz) = true ∧ ys.length * bytes ≤ 140737488355328 ∧ ys.length ≤ 9223372036854775807 ∧ (σ.h d).isNone = true then
        some ⟨upd σ.t d (.own d), upd σ.h d (some ⟨e, sz, ys, none⟩)⟩ else none
    | _ => none
  | _, _ => none

def aCall (Γ : FuncId → Spec) (σ : St) (d : Option Nat) (f : FuncId) (args : List AV) : Option St :=
  match Γ f with
  | .none => none
  | .pure sp => match sp (args.map (frz σ.h)) with
    | some r => if scalarAV r = true then some (σ.set d r)
      else some ⟨(St.set ⟨fun t => killAll (args.filterMap refId) (σ.t t), σ.h⟩ d r).t, eraseAll (args.filterMap refId) σ.h⟩
    | none => none
  | .owned sp => match d, sp (args.map (frz σ.h)) with
    | some d, some b => if (σ.h d).isNone = true ∧ (args.filterMap refId).isEmpty = true then some ⟨upd σ.t d (.own d), upd σ.h d (some ⟨b.e, b.sz, b.xs, none⟩)⟩ else none
    | _, _ => none
  | .inpl sp => match sp args σ.h with
    | some (r, h') => if refId r = none then some ⟨(σ.set d r).t, h'⟩ else none
    | none => none

def maxOk (sh : Sh) (hi mx : Option Operand) : Bool := mx.isNone || (hi.isSome && match sh with | .str => false | _ => true)

def astep (Θ : TypeId → Sh) (Γ : FuncId → Spec) (o : Oper) (σ : St) : Option St :=
  match o.op with
  | .move x | .assign x => some (σ.set o.dst (ev σ x))
  | .pick c a b => match ev σ c with
    | .val (.bool c) => some (σ.set o.dst (if c then ev σ a else ev σ b))
    | _ => none
  | .binOp op t x y _ => (aBin op (Θ t) (ev σ x) (ev σ y)).map (σ.set o.dst)
  | .unOp op _ x => (aUn op (ev σ x)).map (σ.set o.dst)
  | .convert s t x => (aConv (Θ s) (Θ t) (ev σ x) σ.h).map (σ.set o.dst)
  | .extract x i => match ev σ x with
    | .tup xs => (xs[i]?).map (σ.set o.dst)
    | _ => none
  | .indexAddr t x i => match Θ t, intOf? (ev σ i) with
    | .slice _ sz _ _ _, some i => (aIndex sz σ.h (ev σ x) i).map (σ.set o.dst)
    | _, _ => none
  | .index t x i => match Θ t, ev σ x, intOf? (ev σ i) with
    | .str, .val (.string s), some i => if h : 0 ≤ i ∧ i.toNat < s.size then some (σ.set o.dst (vInt .u8 (s[i.toNat]'h.2).toNat)) else none
    | _, _, _ => none
  | .load t p => (aLoad (Θ t) σ.h (ev σ p)).map (σ.set o.dst)
  | .store t p x => (aStore (Θ t) σ.h (ev σ p) (ev σ x)).map fun h' => ⟨(σ.set o.dst .top).t, h'⟩
  | .slice t x lo hi mx => match lenAV σ.h (ev σ x) with
    | some n => match bound? (ev σ) 0 lo, bound? (ev σ) n hi with
      | some l, some m => if bound? (ev σ) m mx = some m ∧ maxOk (Θ t) hi mx = true then (aSlice (Θ t) σ.h (ev σ x) (some l) (some m) (some m)).map (σ.set o.dst) else none
      | _, _ => none
    | none => none
  | .makeSlice t n m => match Θ t, ev σ n, ev σ m, o.dst with
    | .slice e sz bytes z _, .val (.int _ n), .val (.int _ m), some d =>
      if n = m ∧ 0 ≤ n ∧ bytes * n ≤ 281474976710656 ∧ n ≤ 9223372036854775807 ∧ (σ.h d).isNone = true then some ⟨upd σ.t d (.own d), upd σ.h d (some ⟨e, sz, List.replicate n.toNat z, none⟩)⟩ else none
    | _, _, _, _ => none
  | .buildSlice t n ps => match Θ t, o.dst with
    | .slice e sz _ _ _, some d =>
      if n = 0 then (if ps.size = 0 ∧ sz ≤ 100 ∧ (σ.h d).isNone = true then some ⟨upd σ.t d (.own d), upd σ.h d (some ⟨e, sz, [], none⟩)⟩ else none)
      else if idxOk ps.toList 0 = true ∧ ps.size = n ∧ n ≤ 100 ∧ sz ≤ 100 ∧ (ps.toList.map fun p => ev σ p.2).all (elemOk sz) = true then some (σ.set o.dst (.lst (ps.toList.map fun p => ev σ p.2))) else none
    | _, _ => none
  | .call c => match c.callee with
    | .builtin .len => match c.argTypes.toList, c.args.toList with
      | [t], [x] => match Θ t with
        | .slice .. => match ev σ x with
          | .val (.string _) => none
          | x => (lenAV σ.h x).map fun n => σ.set o.dst (vInt .i64 n)
        | .str => match ev σ x with
          | .val (.string s) => some (σ.set o.dst (vInt .i64 s.size))
          | _ => none
        | _ => none
      | _, _ => none
    | .builtin .append => match c.argTypes.toList, c.args.toList, o.dst with
      | [t, u], [s, x], some d => if t = u then aAppend (Θ t) σ d (ev σ s) (ev σ x) else none
      | _, _, _ => none
    | .builtin .max => match c.args.toList with
      | [x, y] => match ev σ x, ev σ y with
        | .val (.int k a), .val (.int _ b) => some (σ.set o.dst (vInt k (if b > a then b else a)))
        | _, _ => none
      | _ => none
    | .value f => match fnOf (ev σ f) with
      | some f => aCall Γ σ o.dst f (c.args.toList.map (ev σ))
      | none => none
    | _ => none
  | _ => none

end Go.Abs

/- Each operation's run, and what it does to the abstract state. -/
namespace Go.Abs
open Go Go.RowKit
set_option linter.unusedVariables false
set_option linter.unusedSimpArgs false

section
variable {P : Program} {n : Nat} {M0 : Nat → Prop} {w0 : Bs} {ρ : Nat → Value} {σ σ' : St} {a : Act} {w : World} {o : Oper} {Q : Exit → Act → World → Prop}

theorem wp_value {v : Value} {w' : World} {K : Act → World → Prop} (h : (execOp a.eval o).run P w = .ok (.value v) w') (hK : K (a.put o.dst v) w') : o.wp P a w K Q := by
  unfold Oper.wp; rw [h]; exact hK
theorem wp_skip' {w' : World} {K : Act → World → Prop} (h : (execOp a.eval o).run P w = .ok .skip w') (hK : K (a.put o.dst undef) w') : o.wp P a w K Q := by
  unfold Oper.wp; rw [h]; exact hK

theorem ev_rep (hs : Sim n M0 w0 ρ σ a w) (x : Operand) : RepT w (inM M0 ρ σ.h) ρ σ.h (ev σ x) (a.eval x) := by
  cases x with
  | tmp t => exact hs.tm t
  | const v => exact RepT.of_rep (.val v)
  | global g => exact RepT.of_rep (.top _)
  | func f => exact RepT.of_rep (.val _)

theorem RepT.val_eq {M : Nat → Prop} {h : Hp} {u v : Value} (hr : RepT w M ρ h (.val u) v) : v = u := by
  have hr : Rep w M (.val u) v := hr
  cases hr; rfl
theorem ev_val (hs : Sim n M0 w0 ρ σ a w) {x : Operand} {v : Value} (h : ev σ x = .val v) : a.eval x = v := by
  have := ev_rep hs x
  rw [h] at this
  exact this.val_eq

/-- The abstract state behind an operation, some orders and rows being as they come. -/
def After (n : Nat) (M0 : Nat → Prop) (w0 : Bs) (σ : St) (a : Act) (w : World) : Prop := ∃ ρ, Sim n M0 w0 ρ σ a w

theorem step_same {x : AV} {v : Value} (hs : Sim n M0 w0 ρ σ a w) (hd : ∀ t, o.dst = some t → t < n) (hr : (execOp a.eval o).run P w = .ok (.value v) w)
    (hv : RepT w (inM M0 ρ σ.h) ρ σ.h x v) (he : some (σ.set o.dst x) = some σ') : o.wp P a w (After n M0 w0 σ') Q := by
  cases he
  exact wp_value hr ⟨ρ, hs.put_same hd hv⟩

theorem run_iBin {op : BinOp} {k k' : IntKind} {x y : Int} {r : AV} (t : TypeId) (h : iBin op k k' x y = some r) : ∃ v, r = .val v ∧ (binOp op t (.int k x) (.int k' y)).run P w = .ok v w := by
  cases op <;> simp only [iBin] at h
  case shl => 
    split at h
    · rename_i h0
      cases h
      exact ⟨_, rfl, by simp [binOp, Op.shift, show ¬ y < 0 by omega]⟩
    · cases h
  case shr => 
    split at h
    · rename_i h0
      cases h
      exact ⟨_, rfl, by simp [binOp, Op.shift, show ¬ y < 0 by omega]⟩
    · cases h
  case quo =>
    split at h
    · rename_i h0
      subst h0
      split at h
      · cases h
      · rename_i h1
        cases h
        exact ⟨_, rfl, by simp [binOp, Op.intDiv, h1]⟩
    · cases h
  case rem =>
    split at h
    · rename_i h0
      subst h0
      split at h
      · cases h
      · rename_i h1
        cases h
        exact ⟨_, rfl, by simp [binOp, Op.intDiv, h1]⟩
    · cases h
  all_goals
    split at h
    · rename_i h0
      subst h0
      cases h
      exact ⟨_, rfl, by simp [binOp, Op.intArith, Op.intBits, Op.intCmp, bitsOp]⟩
    · cases h

theorem run_sBin {op : BinOp} {x y : ByteArray} {r : AV} (t : TypeId) (h : sBin op x y = some r) : ∃ v, r = .val v ∧ (binOp op t (.string x) (.string y)).run P w = .ok v w := by
  cases op <;> simp only [sBin] at h
  case add =>
    split at h
    · rename_i h0
      cases h
      refine ⟨_, rfl, ?_⟩
      have : ¬ ((x.size + y.size : Nat) : Int) > IntKind.i64.max := by
        have : IntKind.i64.max = 9223372036854775807 := rfl
        omega
      simp only [binOp, Op.stringOp]
      rw [if_neg this]
      simp
    · cases h
  all_goals first
    | (cases h; done)
    | (cases h; exact ⟨_, rfl, by simp [binOp, Op.stringOp]⟩)

theorem run_eqGuard_int (op : BinOp) (t : TypeId) (x y : Operand) (k : IntKind) (i : Int) (v : Value) : (eqGuard op t x y (.int k i) v).run P w = .ok () w := by
  cases op <;> simp [eqGuard]
theorem run_eqGuard_str (op : BinOp) (t : TypeId) (x y : Operand) (s : ByteArray) (v : Value) : (eqGuard op t x y (.string s) v).run P w = .ok () w := by
  cases op <;> simp [eqGuard]
theorem run_eqGuard_bool (op : BinOp) (t : TypeId) (x y : Operand) (b : Bool) (v : Value) : (eqGuard op t x y (.bool b) v).run P w = .ok () w := by
  cases op <;> simp [eqGuard]
theorem run_eqGuard_slice (op : BinOp) (t : TypeId) (x y : Operand) (b : Option Addr) (i j : Nat) (v : Value) : (eqGuard op t x y (.slice b i j) v).run P w = .ok () w := by
  cases op <;> simp [eqGuard]

theorem run_equalIn_bool {t : TypeId} (hu : P.underlying t = some .bool) (d : Nat) (x y : Bool) : (Op.equalIn (d + 1) t (.bool x) (.bool y)).run P w = .ok (x == y) w := by
  simp [Op.equalIn, run_underlying hu]
theorem run_equalIn_slice {t e : TypeId} (hu : P.underlying t = some (.slice e)) (d : Nat) (ad : Option Addr) (i j : Nat) : (Op.equalIn (d + 1) t (.slice ad i j) (.slice none 0 0)).run P w = .ok ad.isNone w := by
  cases ad <;> simp [Op.equalIn, run_underlying hu]
theorem run_eq_bool {t : TypeId} (hu : P.underlying t = some .bool) (x y : Bool) : (binOp .eql t (.bool x) (.bool y)).run P w = .ok (.bool (x == y)) w := by
  have h := run_equalIn_bool (P := P) (w := w) hu 9999 x y
  show (do pure (.bool (← Op.equalIn (9999 + 1) t (.bool x) (.bool y))) : Sem Value).run P w = _
  simp only [Sem.run_bind, h, Result.andThen, Sem.run_pure]
theorem run_neq_bool {t : TypeId} (hu : P.underlying t = some .bool) (x y : Bool) : (binOp .neq t (.bool x) (.bool y)).run P w = .ok (.bool (!(x == y))) w := by
  have h := run_equalIn_bool (P := P) (w := w) hu 9999 x y
  show (do pure (.bool (!(← Op.equalIn (9999 + 1) t (.bool x) (.bool y)))) : Sem Value).run P w = _
  simp only [Sem.run_bind, h, Result.andThen, Sem.run_pure]
theorem run_eq_slice {t e : TypeId} (hu : P.underlying t = some (.slice e)) (ad : Option Addr) (i j : Nat) : (binOp .eql t (.slice ad i j) (.slice none 0 0)).run P w = .ok (.bool ad.isNone) w := by
  have h := run_equalIn_slice (P := P) (w := w) hu 9999 ad i j
  show (do pure (.bool (← Op.equalIn (9999 + 1) t (.slice ad i j) (.slice none 0 0))) : Sem Value).run P w = _
  simp only [Sem.run_bind, h, Result.andThen, Sem.run_pure]
theorem run_neq_slice {t e : TypeId} (hu : P.underlying t = some (.slice e)) (ad : Option Addr) (i j : Nat) : (binOp .neq t (.slice ad i j) (.slice none 0 0)).run P w = .ok (.bool (!ad.isNone)) w := by
  have h := run_equalIn_slice (P := P) (w := w) hu 9999 ad i j
  show (do pure (.bool (!(← Op.equalIn (9999 + 1) t (.slice ad i j) (.slice none 0 0)))) : Sem Value).run P w = _
  simp only [Sem.run_bind, h, Result.andThen, Sem.run_pure]

theorem run_aBin {op : BinOp} {sh : Sh} {t yt : TypeId} {x y : Operand} {ax ay r : AV} {vx vy : Value} {M : Nat → Prop} {h : Hp} (hsh : ShOK P t sh)
    (hx : RepT w M ρ h ax vx) (hy : RepT w M ρ h ay vy) (hr : aBin op sh ax ay = some r) :
    ∃ v, RepT w M ρ h r v ∧ (do eqGuard op t x y vx vy; binOp op t vx vy : Sem Value).run P w = .ok v w := by
  unfold aBin at hr
  split at hr
  · rename_i k i k' j
    obtain rfl := hx.val_eq
    obtain rfl := hy.val_eq
    obtain ⟨v, rfl, h1⟩ := run_iBin (P := P) (w := w) t hr
    exact ⟨v, RepT.of_rep (.val v), by simp [run_eqGuard_int, h1, Result.andThen]⟩
  · obtain rfl := hx.val_eq
    obtain rfl := hy.val_eq
    obtain ⟨v, rfl, h1⟩ := run_sBin (P := P) (w := w) t hr
    exact ⟨v, RepT.of_rep (.val v), by simp [run_eqGuard_str, h1, Result.andThen]⟩
  · obtain rfl := hx.val_eq
    obtain rfl := hy.val_eq
    split at hr
    · cases hr
      exact ⟨_, RepT.of_rep (.val _), by simp only [Sem.run_bind, run_eqGuard_bool, Result.andThen, run_eq_bool hsh.1]⟩
    · cases hr
      exact ⟨_, RepT.of_rep (.val _), by simp only [Sem.run_bind, run_eqGuard_bool, Result.andThen, run_neq_bool hsh.1]⟩
    · cases hr
  · rename_i xs
    obtain rfl := hy.val_eq
    have hx : Rep w M (.lst xs) vx := hx
    cases hx with
    | lst _ ad c sz b o f g1 g2 g3 =>
      have hne : xs.isEmpty = false → ad.isNone = false := fun he => by
        have h0 : 0 < xs.length := by cases xs with
          | nil => simp at he
          | cons _ _ => simp
        rw [(g3 h0).1]; rfl
      split at hr
      · split at hr
        · cases hr
          exact ⟨_, RepT.of_rep (.anyb ad.isNone), by simp only [Sem.run_bind, run_eqGuard_slice, Result.andThen, run_eq_slice hsh.1]⟩
        · rename_i he
          cases hr
          exact ⟨.bool false, RepT.of_rep (.val _), by simp only [Sem.run_bind, run_eqGuard_slice, Result.andThen, run_eq_slice hsh.1, hne (by simpa using he)]⟩
      · split at hr
        · cases hr
          exact ⟨_, RepT.of_rep (.anyb (!ad.isNone)), by simp only [Sem.run_bind, run_eqGuard_slice, Result.andThen, run_neq_slice hsh.1]⟩
        · rename_i he
          cases hr
          exact ⟨.bool true, RepT.of_rep (.val _), by simp only [Sem.run_bind, run_eqGuard_slice, Result.andThen, run_neq_slice hsh.1, hne (by simpa using he)]; rfl⟩
      · cases hr
  · cases hr

theorem run_aUn {op : UnOp} {ax r : AV} {vx : Value} {M : Nat → Prop} {h : Hp} (hx : RepT w M ρ h ax vx) (hr : aUn op ax = some r) :
    ∃ v, RepT w M ρ h r v ∧ (Op.unary op vx).run P w = .ok v w := by
  unfold aUn at hr
  split at hr
  · obtain rfl := hx.val_eq
    cases hr
    exact ⟨_, RepT.of_rep (.val _), by simp [Op.unary]⟩
  · obtain rfl := hx.val_eq
    cases hr
    exact ⟨_, RepT.of_rep (.val _), by simp [Op.unary, Op.intArith]⟩
  · obtain rfl := hx.val_eq
    cases hr
    exact ⟨_, RepT.of_rep (.val _), by simp [Op.unary, Op.intBits, bitsOp]⟩
  · cases hr

/-- A slice's value, as a row that is read. -/
theorem elems_rep {M0 : Nat → Prop} {h : Hp} (hh : SimH M0 w0 ρ h w) {x : AV} {v : Value} {xs : List AV} (hr : RepT w (inM M0 ρ h) ρ h x v) (he : elems h x = some xs) :
    ∃ (ad : Option Addr) (c sz b o : Nat) (f : Nat → Value), v = .slice ad xs.length c ∧ xs.length ≤ c ∧ uni sz xs ∧ (0 < xs.length → ad = some ⟨b, o, none⟩ ∧ b < w.heap.size) ∧
      (∀ (j : Nat) y, (flat xs)[j]? = some y → w.cell? ⟨b, o + j, none⟩ = some (f j)) ∧ (∀ (j : Nat) y, (flat xs)[j]? = some y → Rep w (inM M0 ρ h) y (f j)) ∧
      (0 < xs.length → ∀ id, refId x ≠ some id → ∀ bf, h id = some bf → (ρ id).ownBlock ≠ some b) ∧ (refId x = none → 0 < xs.length → ¬ inM M0 ρ h b) ∧ (∀ id, refId x = some id → 0 < xs.length → (ρ id).ownBlock = some b) := by
  unfold elems at he
  split at he
  · cases he
    have hr : Rep w (inM M0 ρ h) (.lst xs) v := hr
    cases hr with
    | lst _ ad c sz b o f h1 h2 h3 h4 h5 =>
      exact ⟨ad, c, sz, b, o, f, rfl, h1, h2, fun h0 => ⟨(h3 h0).1, (h3 h0).2.1⟩, h4, h5, fun h0 id _ bf hbf hc => (h3 h0).2.2 (.inr ⟨id, bf, hbf, hc⟩), fun _ h0 => (h3 h0).2.2, fun id hc => by simp [refId] at hc⟩
  · cases he
    obtain rfl := hr.val_eq
    exact ⟨none, 0, 1, 0, 0, fun _ => undef, rfl, Nat.le_refl _, fun x hx => by simp at hx, fun h => by simp at h, fun j y hy => by simp [flat] at hy, fun j y hy => by simp [flat] at hy, fun h => by simp at h, fun _ h => by simp at h, fun id hc => by simp [refId] at hc⟩
  · rename_i id
    obtain ⟨b, hb, rfl⟩ := hr
    simp [hb] at he
    subst he
    obtain ⟨h1, h2, vs, h3, h4⟩ := hh.own id b hb
    rcases h3.2 with ⟨hv, hn⟩ | ⟨g, cap, cur, hv, hg0, hg, hnc, hcm, hcs, htake⟩
    · have hx : b.xs = [] := List.eq_nil_of_length_eq_zero hn
      refine ⟨none, 0, b.sz, 0, 0, fun _ => undef, by rw [hv, hx]; rfl, by simp [hx], h1, fun h => by simp [hx] at h, fun j y hy => by simp [hx, flat] at hy, fun j y hy => by simp [hx, flat] at hy, fun h => by simp [hx] at h, fun _ h => by simp [hx] at h, fun _ _ h => by simp [hx] at h⟩
    · have hlt : g < w.heap.size := (Array.getElem?_eq_some_iff.1 hg).1
      refine ⟨some ⟨g, 0, none⟩, cap, b.sz, g, 0, fun j => vs.getD j undef, hv, hnc, h1, fun _ => ⟨rfl, hlt⟩, fun j y hy => ?_, fun j y hy => ?_, fun _ i hi bf hbf hc => ?_, fun hc => by simp [refId] at hc, fun i hi _ => by cases hi; rw [hv]; rfl⟩
      · obtain ⟨u, hu, _⟩ := h4.get hy
        have hj : j < b.xs.length * b.sz := by
          have := (List.getElem?_eq_some_iff.1 hu).1
          rw [h3.1] at this
          exact this
        have hc := World.ownsRow.cellAt (hv ▸ h3) j hj
        rw [Nat.zero_add, hc, hu]
        simp [List.getD_eq_getElem?_getD, hu]
      · obtain ⟨u, hu, hrep⟩ := h4.get hy
        simpa [List.getD_eq_getElem?_getD, hu] using hrep
      · exact hh.apart id i b bf g (fun e => hi (by rw [e]; rfl)) hb hbf (by rw [hv]; rfl) hc
  · rename_i id off len
    obtain ⟨b, hb, hle, ad, c, rfl, hlc, hat⟩ := hr
    simp [hb] at he
    subst he
    obtain ⟨h1, h2, vs, h3, h4⟩ := hh.own id b hb
    have hlen : ((b.xs.drop off).take len).length = len := by simp; omega
    rcases Nat.eq_zero_or_pos len with h0 | h0
    · subst h0
      refine ⟨ad, c, b.sz, 0, 0, fun _ => undef, by simp, by simp, uni_take _ (uni_drop _ h1), fun h => by simp at h, fun j y hy => by simp [flat] at hy, fun j y hy => by simp [flat] at hy, fun h => by simp at h, fun _ h => by simp at h, fun _ _ h => by simp at h⟩
    · obtain ⟨g, n', cap, hv, rfl⟩ := hat h0
      rcases h3.2 with ⟨hv', hn⟩ | ⟨g', cap', cur, hv', hg0, hg, hnc, hcm, hcs, htake⟩
      · rw [hv'] at hv; cases hv
      · rw [hv'] at hv
        cases hv
        have hlt : g < w.heap.size := (Array.getElem?_eq_some_iff.1 hg).1
        have hfl : ∀ (j : Nat) y, (flat ((b.xs.drop off).take len))[j]? = some y → (flat b.xs)[off * b.sz + j]? = some y := by
          intro j y hy
          rw [flat_take _ (uni_drop _ h1), flat_drop _ h1] at hy
          have hj := (List.getElem?_eq_some_iff.1 hy).1
          rw [List.getElem?_take] at hy
          split at hy
          · rwa [List.getElem?_drop] at hy
          · cases hy
        refine ⟨some ⟨g, off * b.sz, none⟩, c, b.sz, g, off * b.sz, fun j => vs.getD (off * b.sz + j) undef, by rw [hlen], by rw [hlen]; exact hlc, uni_take _ (uni_drop _ h1), fun _ => ⟨rfl, hlt⟩, fun j y hy => ?_, fun j y hy => ?_, fun _ i hi bf hbf hc => ?_, fun hc => by simp [refId] at hc, fun i hi _ => by cases hi; rw [hv']; rfl⟩
        · obtain ⟨u, hu, _⟩ := h4.get (hfl j y hy)
          have hj : off * b.sz + j < b.xs.length * b.sz := by
            have := (List.getElem?_eq_some_iff.1 hu).1
            rw [h3.1] at this
            exact this
          have hc := World.ownsRow.cellAt (hv' ▸ h3) (off * b.sz + j) hj
          rw [hc, hu]
          simp [List.getD_eq_getElem?_getD, hu]
        · obtain ⟨u, hu, hrep⟩ := h4.get (hfl j y hy)
          simpa [List.getD_eq_getElem?_getD, hu] using hrep
        · exact hh.apart id i b bf g (fun e => hi (by rw [e]; rfl)) hb hbf (by rw [hv']; rfl) hc
  · cases he

end
end Go.Abs

/- Loads, stores, slices, rows that are made. -/
namespace Go.Abs
open Go Go.RowKit
set_option linter.unusedVariables false
set_option linter.unusedSimpArgs false

section
variable {P : Program} {n : Nat} {M0 : Nat → Prop} {w0 : Bs} {ρ : Nat → Value} {σ σ' : St} {a : Act} {w : World} {o : Oper} {Q : Exit → Act → World → Prop}

theorem add_zero_spot (b o j : Nat) : (⟨b, o, none⟩ : Addr).add j = ⟨b, o + j, none⟩ := by unfold Addr.add; split <;> simp_all

theorem Rep.val_eq {M : Nat → Prop} {u v : Value} (hr : Rep w M (.val u) v) : v = u := by cases hr; rfl

theorem flat_get1 {L : List AV} (hu : uni 1 L) {i : Nat} {x : AV} (hi : L[i]? = some x) : (flat L)[i]? = (cellsOf x)[0]? := by
  have := flat_get hu hi (show 0 < 1 by omega)
  simpa using this

theorem run_aConv {sh1 sh2 : Sh} {s t : TypeId} {ax r : AV} {vx : Value} {h : Hp} (hh : SimH M0 w0 ρ h w) (hs : ShOK P s sh1) (ht : ShOK P t sh2) (hx : RepT w (inM M0 ρ h) ρ h ax vx)
    (hr : aConv sh1 sh2 ax h = some r) : ∃ v, RepT w (inM M0 ρ h) ρ h r v ∧ (convert s t vx).run P w = .ok v w := by
  unfold aConv at hr
  split at hr
  · rename_i k k' i
    obtain rfl := hx.val_eq
    have hd : P.underlying t = some (.int k) := ht.1
    have hex : ∃ d, P.underlying s = some d := by
      cases sh1 with
      | int k => exact ⟨_, hs.1⟩
      | bool => exact ⟨_, hs.1⟩
      | str => exact ⟨_, hs.1⟩
      | slice e sz bytes z ek => exact ⟨_, hs.1⟩
      | struct fs sz z => obtain ⟨fields, _, _, h1, _⟩ := hs; exact ⟨_, h1⟩
      | other => simp at hr
    obtain ⟨d, hd'⟩ := hex
    have hr' : r = vInt k (k.wrap i) := by cases sh1 <;> simp at hr <;> exact hr.symm
    subst hr'
    refine ⟨_, RepT.of_rep (.val _), ?_⟩
    simp only [convert, Sem.run_bind, run_underlying hd', run_underlying hd, Result.andThen]
    cases d <;> rfl
  · rename_i s'
    obtain rfl := hx.val_eq
    split at hr
    · cases hr
      exact ⟨_, RepT.of_rep (.val _), by simp [convert, run_underlying (show P.underlying s = some .string from hs.1), run_underlying (show P.underlying t = some .string from ht.1), Result.andThen]⟩
    · cases hr
  · split at hr
    · rename_i _ e by_ z xs he
      cases hL : asInts .u8 xs with
      | none => simp [hL] at hr
      | some L =>
        simp [hL] at hr
        subst hr
        obtain rfl := asInts_some hL
        obtain ⟨ad, c, sz, b, off, f, rfl, h1, h2, h3, h4, h5, _⟩ := elems_rep hh hx he
        have hse : P.underlying s = some (.slice e) := hs.1
        have hee : P.underlying e = some (.int .u8) := hs.2.2.2.1 _ rfl
        have htt : P.underlying t = some .string := ht.1
        refine ⟨_, RepT.of_rep (.val _), ?_⟩
        cases ad with
        | none =>
          have h0 : L = [] := by
            cases L with
            | nil => rfl
            | cons _ _ => have := (h3 (by simp [ints])).1; cases this
          subst h0
          exact run_convert_bytes_nil w s e hse hee _ _ t htt
        | some ad =>
          by_cases h0 : 0 < (ints .u8 L).length
          · obtain ⟨h6, h7⟩ := h3 h0
            cases h6
            refine run_convert_bytes_arg w s e hse hee b off _ c L (by simp [ints]) (fun i hi => ?_) t htt
            have hi' : i < L.length := by simpa [ints] using hi
            have hfl : ∀ (L : List Int) (i : Nat), i < L.length → (flat (ints .u8 L))[i]? = some (vInt .u8 (L.getD i 0)) := by
              intro L
              induction L with
              | nil => intro i hi; simp at hi
              | cons x L ih =>
                intro i hi
                cases i with
                | zero => simp [ints, flat, cellsOf, vInt]
                | succ i =>
                  have := ih i (by simpa using hi)
                  simpa [ints, flat, cellsOf, vInt] using this
            have h8 := hfl L i hi'
            rw [h4 i _ h8]
            rw [Rep.val_eq (h5 i _ h8)]
          · have h0' : L = [] := by
              cases L with
              | nil => rfl
              | cons _ _ => simp [ints] at h0
            subst h0'
            rw [run_convert_bytes_string w s t e _ _ _ hse hee htt]
            simp [ints, strOfNums, Conv.bytesToString, Result.andThen, loadCells, loadCellsFrom]
            rfl
    · cases hr
  · cases hr

theorem run_aIndex {t e : TypeId} {sz by_ : Nat} {z : AV} {ek : Option IntKind} {ax r : AV} {vx : Value} {h : Hp} {k : IntKind} {i : Int} (hh : SimH M0 w0 ρ h w) (hsh : ShOK P t (.slice e sz by_ z ek))
    (hx : RepT w (inM M0 ρ h) ρ h ax vx) (hr : aIndex sz h ax i = some r) : ∃ v, RepT w (inM M0 ρ h) ρ h r v ∧ (Instr.indexAt t vx (.int k i)).run P w = .ok v w := by
  obtain ⟨hu, _, h0, _, ti, zv, hi, hsz, _⟩ := hsh
  have hso : ∀ w : World, (sizeOf e).run P w = .ok sz w := fun w => by simp [sizeOf, typeInfo, hi, hsz]
  have main : ∀ (b off len cap : Nat), 0 ≤ i → i < len → (Instr.indexAt t (.slice (some ⟨b, off, none⟩) len cap) (.int k i)).run P w = .ok (.pointer (some ⟨b, off + i.toNat * sz, none⟩)) w := by
    intro b off len cap h1 h2
    simp [Instr.indexAt, asIntOf, run_underlying hu, Result.andThen, h1, h2, hso, add_zero_spot]
  unfold aIndex at hr
  split at hr
  · rename_i xs
    split at hr
    · rename_i hc
      obtain ⟨h1, h2, h3⟩ := hc
      cases hr
      have hx : Rep w (inM M0 ρ h) (.lst xs) vx := hx
      cases hx with
      | lst _ ad c sz' b off f g1 g2 g3 g4 g5 =>
        obtain ⟨rfl, g6, g7⟩ := g3 (by omega)
        have hlt : i.toNat < xs.length := by omega
        have hel : xs[i.toNat]? = some (xs.getD i.toNat .top) := by simp [List.getD_eq_getElem?_getD, List.getElem?_eq_getElem hlt]
        have hsz' : sz' = sz := by
          rw [← h3]
          exact (g2 _ (List.mem_of_getElem? hel)).symm
        subst hsz'
        refine ⟨_, RepT.of_rep (.pe _ b (off + i.toNat * sz') (fun j => f (i.toNat * sz' + j)) g6 g7 (fun j y hy => ?_) (fun j y hy => ?_)), main _ _ _ _ h1 h2⟩
        · have hj : j < sz' := by
            have := (List.getElem?_eq_some_iff.1 hy).1
            omega
          have := g4 (i.toNat * sz' + j) y (by rw [flat_get g2 hel hj]; exact hy)
          rw [Nat.add_assoc]
          exact this
        · have hj : j < sz' := by
            have := (List.getElem?_eq_some_iff.1 hy).1
            omega
          exact g5 (i.toNat * sz' + j) y (by rw [flat_get g2 hel hj]; exact hy)
    · cases hr
  · rename_i id
    split at hr
    · rename_i b hb
      split at hr
      · rename_i hc
        obtain ⟨h1, h2, h3⟩ := hc
        cases hr
        obtain ⟨b', hb', rfl⟩ := hx
        rw [hb] at hb'
        cases hb'
        subst h3
        obtain ⟨_, _, vs, hown, _⟩ := hh.own id b hb
        rcases hown.2 with ⟨_, h'⟩ | ⟨g, cap, cur, hv, _⟩
        · omega
        · refine ⟨.pointer (some ⟨g, i.toNat * b.sz, none⟩), ⟨b, hb, by omega, g, _, cap, hv, by rw [Nat.add_zero]⟩, ?_⟩
          rw [hv, main _ _ _ _ h1 h2, Nat.zero_add]
      · cases hr
    · cases hr
  · rename_i id off len
    split at hr
    · rename_i b hb
      split at hr
      · rename_i hc
        obtain ⟨h1, h2, h3⟩ := hc
        cases hr
        obtain ⟨b', hb', hle, ad, c, rfl, hlc, hat⟩ := hx
        rw [hb] at hb'
        cases hb'
        subst h3
        obtain ⟨g, n', cap, hv, rfl⟩ := hat (by omega)
        refine ⟨.pointer (some ⟨g, off * b.sz + i.toNat * b.sz, none⟩), ⟨b, hb, by omega, g, n', cap, hv, by rw [Nat.add_mul]; rfl⟩, main _ _ _ _ h1 h2⟩
      · cases hr
    · cases hr
  · cases hr

theorem run_loadScalar {t : TypeId} (hu : isAggB P t = false) (hs : (P.underlying t).isSome = true) {b off : Nat} {v : Value} (hc : w.cell? ⟨b, off, none⟩ = some v) : (Instr.loadAt t (.pointer (some ⟨b, off, none⟩))).run P w = .ok v w := by
  obtain ⟨d, hd⟩ := Option.isSome_iff_exists.1 hs
  unfold isAggB at hu
  rw [hd] at hu
  have : (isAgg t).run P w = .ok false w := by
    unfold isAgg
    simp only [Sem.run_bind, run_underlying hd, Result.andThen]
    cases d <;> simp at hu ⊢
  simp [Instr.loadAt, Instr.sureAddr, loadVar, this, Result.andThen, load, Sem.run, hc]

theorem run_loadAgg {t : TypeId} {fields : Array Field} (hu : P.underlying t = some (.struct fields)) {i : TypeInfo} (hi : P.info? t = some i) {b off : Nat} (vs : List Value) (hl : vs.length = i.size)
    (hc : ∀ (j : Nat) v, vs[j]? = some v → w.cell? ⟨b, off + j, none⟩ = some v) : (Instr.loadAt t (.pointer (some ⟨b, off, none⟩))).run P w = .ok (.agg vs.toArray) w := by
  have := run_loadVar_mid (P := P) w b off t vs _ hc hu rfl (by rw [hi]; simp [hl])
  simp [Instr.loadAt, Instr.sureAddr, this]

theorem ShOK.scalar {t : TypeId} {sh : Sh} (h : ShOK P t sh) (h1 : sh ≠ .other) (h2 : ∀ fs sz z, sh ≠ .struct fs sz z) : isAggB P t = false ∧ (P.underlying t).isSome = true := by
  cases sh with
  | int k => have h : P.underlying t = _ := h.1; unfold isAggB; rw [h]; exact ⟨rfl, rfl⟩
  | bool => have h : P.underlying t = _ := h.1; unfold isAggB; rw [h]; exact ⟨rfl, rfl⟩
  | str => have h : P.underlying t = _ := h.1; unfold isAggB; rw [h]; exact ⟨rfl, rfl⟩
  | slice e sz by_ z ek => have h := h.1; unfold isAggB; rw [h]; exact ⟨rfl, rfl⟩
  | struct fs sz z => exact absurd rfl (h2 fs sz z)
  | other => exact absurd rfl h1

/-- A variable that reads as cells. -/
theorem run_takeVar {t : TypeId} {sh : Sh} (hsh : ShOK P t sh) {M : Nat → Prop} {b off : Nat} {cs : List AV} {f : Nat → Value} {r : AV} (hr : takeVar sh cs = some r)
    (hc : ∀ (j : Nat) y, cs[j]? = some y → w.cell? ⟨b, off + j, none⟩ = some (f j)) (hR : ∀ (j : Nat) y, cs[j]? = some y → Rep w M y (f j)) :
    ∃ v, Rep w M r v ∧ (Instr.loadAt t (.pointer (some ⟨b, off, none⟩))).run P w = .ok v w := by
  unfold takeVar at hr
  split at hr
  · cases hr
  · rename_i fs sz z
    split at hr
    · rename_i hle
      cases hr
      obtain ⟨fields, i, zv, hu, hi, hsz, _⟩ := hsh
      have hl : (cs.take sz).length = sz := by simp; omega
      refine ⟨_, .agg (cs.take sz) ((List.range sz).map f).toArray (by simp; omega) (fun j x v hx hv => ?_), run_loadAgg hu hi ((List.range sz).map f) (by simp [hsz]) (fun j v hv => ?_)⟩
      · have hj : j < sz := by have := (List.getElem?_eq_some_iff.1 hx).1; omega
        simp [hj] at hv
        subst hv
        rw [List.getElem?_take, if_pos hj] at hx
        exact hR j x hx
      · have hj : j < sz := by have := (List.getElem?_eq_some_iff.1 hv).1; simpa using this
        simp [hj] at hv
        subst hv
        exact hc j _ (List.getElem?_eq_getElem (by omega))
    · cases hr
  · rename_i h1 h2
    obtain ⟨g1, g2⟩ := hsh.scalar (fun e => h1 e) (fun fs sz z e => h2 fs sz z e)
    cases cs with
    | nil => simp at hr
    | cons x cs =>
      simp at hr
      subst hr
      exact ⟨f 0, hR 0 x rfl, run_loadScalar g1 g2 (by simpa using hc 0 x rfl)⟩

theorem run_aLoad {t : TypeId} {sh : Sh} {ap r : AV} {vp : Value} {h : Hp} (hh : SimH M0 w0 ρ h w) (hsh : ShOK P t sh)
    (hp : RepT w (inM M0 ρ h) ρ h ap vp) (hr : aLoad sh h ap = some r) : ∃ v, Rep w (inM M0 ρ h) r v ∧ (Instr.loadAt t vp).run P w = .ok v w := by
  unfold aLoad at hr
  split at hr
  · rename_i x
    have hp : Rep w (inM M0 ρ h) (.pe x) vp := hp
    cases hp with
    | pe _ b off f g1 g2 g3 g4 => exact run_takeVar hsh hr g3 g4
  · rename_i id i off
    split at hr
    · rename_i b hb
      obtain ⟨b', hb', hlt, g, n', cap, hv, rfl⟩ := hp
      rw [hb] at hb'
      cases hb'
      obtain ⟨h1, h2, vs, hown, hR⟩ := hh.own id b hb
      rw [hv] at hown
      have hn : n' = b.xs.length := by
        rcases hown.2 with ⟨h', _⟩ | ⟨_, _, _, h', _⟩ <;> cases h'
        rfl
      subst hn
      have hel : b.xs[i]? = some (b.xs.getD i .top) := by simp [List.getD_eq_getElem?_getD, List.getElem?_eq_getElem hlt]
      have hlen := h1 _ (List.mem_of_getElem? hel)
      have key : ∀ (j : Nat) y, ((cellsOf (b.xs.getD i .top)).drop off)[j]? = some y → (flat b.xs)[i * b.sz + (off + j)]? = some y := by
        intro j y hy
        rw [List.getElem?_drop] at hy
        have hj := (List.getElem?_eq_some_iff.1 hy).1
        rw [flat_get h1 hel (by omega)]
        exact hy
      refine run_takeVar (f := fun j => vs.getD (i * b.sz + (off + j)) undef) hsh hr (fun j y hy => ?_) (fun j y hy => ?_)
      · obtain ⟨u, hu, _⟩ := hR.get (key j y hy)
        have hj := (List.getElem?_eq_some_iff.1 hu).1
        rw [hown.1] at hj
        rw [Nat.add_assoc, hown.cellAt _ hj, hu]
        simp [List.getD_eq_getElem?_getD, hu]
      · obtain ⟨u, hu, hrep⟩ := hR.get (key j y hy)
        simpa [List.getD_eq_getElem?_getD, hu] using hrep
    · cases hr
  · cases hr

end
end Go.Abs

/- Stores, cuts, rows that are made. -/
namespace Go.Abs
open Go Go.RowKit
set_option linter.unusedVariables false
set_option linter.unusedSimpArgs false

section
variable {P : Program} {n : Nat} {M0 : Nat → Prop} {w0 : Bs} {ρ : Nat → Value} {σ σ' : St} {a : Act} {w : World} {o : Oper} {Q : Exit → Act → World → Prop}

theorem inM_upd {h : Hp} {id : Nat} {b b' : Buf} (hb : h id = some b) (k : Nat) : inM M0 ρ (upd h id (some b')) k ↔ inM M0 ρ h k := by
  unfold inM
  constructor
  · rintro (h1 | ⟨i, bf, h1, h2⟩)
    · exact .inl h1
    · by_cases hi : i = id
      · subst hi; exact .inr ⟨i, b, hb, h2⟩
      · rw [upd_ne _ _ hi] at h1; exact .inr ⟨i, bf, h1, h2⟩
  · rintro (h1 | ⟨i, bf, h1, h2⟩)
    · exact .inl h1
    · by_cases hi : i = id
      · subst hi; exact .inr ⟨i, b', upd_same _ _ _, h2⟩
      · exact .inr ⟨i, bf, by rw [upd_ne _ _ hi]; exact h1, h2⟩

/-- An own row is written. -/
theorem SimH.write {h : Hp} {id : Nat} {b b' : Buf} {w' : World} {vs' : List Value} (hs : SimH M0 w0 ρ h w) (hb : h id = some b) (hg : w.grownBy w' (ρ id).ownBlock)
    (hsz : b'.sz = b.sz) (hhdr : b'.hdr = b.hdr) (hu : uni b'.sz b'.xs) (hown : w'.ownsRow w0.base b'.e b'.sz (ρ id) b'.xs.length vs') (hR : RepL w (inM M0 ρ h) (flat b'.xs) vs') :
    SimH M0 w0 ρ (upd h id (some b')) w' ∧ (∀ k, k < w.heap.size → ¬ inM M0 ρ h k → w'.heap[k]? = w.heap[k]?) := by
  have hB := hs.own id b hb
  have hk : ∀ k, k < w.heap.size → ¬ inM M0 ρ h k → w'.heap[k]? = w.heap[k]? := fun k hk hm => hg.block k hk (fun e => hm (.inr ⟨id, b, hb, e.symm⟩))
  have hM : ∀ k, k < w.heap.size → inM M0 ρ (upd h id (some b')) k → inM M0 ρ h k := fun k _ hm => (inM_upd hb k).1 hm
  refine ⟨⟨hs.below.grown hg (fun k hk => hs.off id b k hb hk), fun i bi k hi hki => ?_, fun i bi u hi hu' => ?_, hs.m0, fun i bi hi => ?_, fun i j bi bj k hij hi hj hki hkj => ?_⟩, hk⟩
  · by_cases hid : i = id
    · subst hid; exact hs.off i b k hb hki
    · rw [upd_ne _ _ hid] at hi; exact hs.off i bi k hi hki
  · by_cases hid : i = id
    · subst hid
      rw [upd_same] at hi
      cases hi
      exact hs.hdr i b u hb (by rw [← hhdr]; exact hu')
    · rw [upd_ne _ _ hid] at hi; exact hs.hdr i bi u hi hu'
  · by_cases hid : i = id
    · subst hid
      rw [upd_same] at hi
      cases hi
      exact ⟨hu, by rw [hsz]; exact hB.2.1, vs', hown, hR.keep hg.size hk hM⟩
    · rw [upd_ne _ _ hid] at hi
      refine (hs.own i bi hi).keep (.inr ⟨_, hg, ?_⟩) hk hM
      cases hv : (ρ i).ownBlock with
      | none => exact .inl rfl
      | some g => exact .inr (fun e => hs.apart i id bi b g hid hi hb hv e.symm)
  · have get : ∀ i bi, upd h id (some b') i = some bi → ∃ b0, h i = some b0 := by
      intro i bi hi
      by_cases hid : i = id
      · subst hid; exact ⟨b, hb⟩
      · rw [upd_ne _ _ hid] at hi; exact ⟨bi, hi⟩
    obtain ⟨b1, h1⟩ := get i bi hi
    obtain ⟨b2, h2⟩ := get j bj hj
    exact hs.apart i j b1 b2 k hij h1 h2 hki hkj

theorem RepT.write {h : Hp} {id : Nat} {b b' : Buf} {w' : World} (hb : h id = some b) (hs : w.heap.size ≤ w'.heap.size) (hsz : b'.sz = b.sz) (hl : b.xs.length ≤ b'.xs.length)
    (hk : ∀ k, k < w.heap.size → ¬ inM M0 ρ h k → w'.heap[k]? = w.heap[k]?) {x : AV} {v : Value} (hr : RepT w (inM M0 ρ h) ρ h x v) : RepT w' (inM M0 ρ (upd h id (some b'))) ρ (upd h id (some b')) x v :=
  hr.keep hs hk (fun k _ hm => (inM_upd hb k).1 hm) (fun i bi _ hi => by
    by_cases hid : i = id
    · subst hid
      rw [hb] at hi
      cases hi
      exact ⟨b', upd_same _ _ _, rfl, hsz, hl⟩
    · exact ⟨bi, by rw [upd_ne _ _ hid]; exact hi, rfl, rfl, Nat.le_refl _⟩)

theorem ownsRow_setCells {base : Nat} {e : TypeId} {size g m cap : Nat} : ∀ (us : List Value) (j : Nat) (w : World) (vs : List Value), j + us.length ≤ vs.length →
    w.ownsRow base e size (.slice (some ⟨g, 0, none⟩) m cap) m vs →
    ∃ vs', (w.setCells g j us).ownsRow base e size (.slice (some ⟨g, 0, none⟩) m cap) m vs' ∧ w.grownBy (w.setCells g j us) (some g) ∧ vs'.length = vs.length ∧
      ∀ k, vs'[k]? = if j ≤ k ∧ k < j + us.length then us[k - j]? else vs[k]?
  | [], j, w, vs, _, h => ⟨vs, h, ⟨rfl, rfl, rfl, Nat.le_refl _, fun _ _ _ => rfl⟩, rfl, fun k => by rw [if_neg (by simp)]⟩
  | u :: us, j, w, vs, hl, h => by
    simp only [List.length_cons] at hl
    obtain ⟨h1, h2⟩ := h.stored j u
    obtain ⟨vs', h3, h4, h5, h6⟩ := ownsRow_setCells us (j + 1) _ (vs.set j u) (by simp; omega) h1
    refine ⟨vs', h3, h2.trans h4, by simpa using h5, fun k => ?_⟩
    rw [h6 k]
    by_cases hk : j + 1 ≤ k ∧ k < j + 1 + us.length
    · rw [if_pos hk, if_pos (by simp; omega)]
      rw [show k - j = (k - (j + 1)) + 1 by omega]
      simp
    · rw [if_neg hk]
      by_cases hkj : k = j
      · subst hkj
        rw [if_pos (by simp)]
        simp [List.getElem?_set]
        omega
      · rw [if_neg (by simp; omega), List.getElem?_set, if_neg (Ne.symm hkj)]

theorem flat_set {sz : Nat} : ∀ {xs : List AV} {i : Nat} {v : AV} {k : Nat}, uni sz xs → i < xs.length → (cellsOf v).length = sz →
    (flat (xs.set i v))[k]? = if i * sz ≤ k ∧ k < i * sz + sz then (cellsOf v)[k - i * sz]? else (flat xs)[k]?
  | x :: xs, 0, v, k, hu, _, hv => by
    have hx := hu x (by simp)
    simp only [List.set_cons_zero, flat, Nat.zero_mul, Nat.zero_le, true_and, Nat.zero_add, Nat.sub_zero]
    by_cases hk : k < sz
    · rw [if_pos hk, List.getElem?_append_left (by omega)]
    · rw [if_neg hk, List.getElem?_append_right (by omega), List.getElem?_append_right (by omega), hv, hx]
  | x :: xs, i + 1, v, k, hu, hi, hv => by
    have hx := hu x (by simp)
    have ih := fun k => flat_set (xs := xs) (i := i) (v := v) (k := k) (fun y hy => hu y (by simp [hy])) (by simpa using hi) hv
    simp only [List.set_cons_succ, flat]
    have e : (i + 1) * sz = i * sz + sz := by rw [Nat.add_mul]; omega
    by_cases hk : k < sz
    · rw [List.getElem?_append_left (by omega), List.getElem?_append_left (by omega), if_neg (by omega)]
    · rw [List.getElem?_append_right (by omega), List.getElem?_append_right (by omega), hx, ih]
      by_cases h2 : i * sz ≤ k - sz ∧ k - sz < i * sz + sz
      · rw [if_pos h2, if_pos (by omega)]
        congr 1
        omega
      · rw [if_neg h2, if_neg (by omega)]

theorem uni_set {sz : Nat} {xs : List AV} {i : Nat} {v : AV} (hu : uni sz xs) (hv : (cellsOf v).length = sz) : uni sz (xs.set i v) := by
  intro x hx
  rcases List.mem_or_eq_of_mem_set hx with h | h
  · exact hu x h
  · subst h; exact hv

/-- What comes of a store into an own row. -/
theorem run_store_own {t : TypeId} {h : Hp} {id i : Nat} {b : Buf} {v : AV} {u : Value} {cells : List Value} {g m cap : Nat} (hh : SimH M0 w0 ρ h w) (hb : h id = some b)
    (hv : ρ id = .slice (some ⟨g, 0, none⟩) m cap) (hi : i < b.xs.length) (hcl : cells = u.cells.toList) (hR : RepL w (inM M0 ρ h) (cellsOf v) cells) (h1 : ∀ c ∈ cells, c.oneCell' = true) (hl : (cellsOf v).length = b.sz)
    (hrun : ∀ w : World, (∀ j, j < cells.length → (w.cell? ⟨g, i * b.sz + j, none⟩).isSome = true) → (∀ j, j < cells.length → w.frozen? ⟨g, i * b.sz + j, none⟩ = false) →
      (Instr.storeAt t (.pointer (some ⟨g, i * b.sz, none⟩)) u).run P w = .ok () (w.setCells g (i * b.sz) cells)) :
    ∃ w', (Instr.storeAt t (.pointer (some ⟨g, i * b.sz, none⟩)) u).run P w = .ok () w' ∧ SimH M0 w0 ρ (upd h id (some { b with xs := b.xs.set i v })) w' ∧ w.heap.size ≤ w'.heap.size ∧
      (∀ k, k < w.heap.size → ¬ inM M0 ρ h k → w'.heap[k]? = w.heap[k]?) := by
  obtain ⟨g1, g2, vs, hown, hRv⟩ := hh.own id b hb
  rw [hv] at hown
  have hm : m = b.xs.length := by
    rcases hown.2 with ⟨h', _⟩ | ⟨_, _, _, h', _⟩ <;> cases h'
    rfl
  subst hm
  have hcl' : cells.length = b.sz := by rw [← hR.1]; exact hl
  have hle : i * b.sz + b.sz ≤ b.xs.length * b.sz := by
    have : (i + 1) * b.sz ≤ b.xs.length * b.sz := Nat.mul_le_mul_right _ hi
    rw [Nat.add_mul] at this
    omega
  have hvl : vs.length = b.xs.length * b.sz := hown.1
  have hr := hrun w (fun j hj => by
    rw [hown.cellAt _ (by omega)]
    simp; omega) (fun j hj => hown.frozenAt _)
  obtain ⟨vs', k1, k2, k3, k4⟩ := ownsRow_setCells cells (i * b.sz) w vs (by omega) hown
  have hg : w.grownBy (w.setCells g (i * b.sz) cells) (ρ id).ownBlock := by rw [hv]; exact k2
  have hW := SimH.write (b' := { b with xs := b.xs.set i v }) (vs' := vs') hh hb hg rfl rfl (uni_set g1 hl) (by rw [hv]; simpa using k1) ?_
  · exact ⟨_, hr, hW.1, k2.size, hW.2⟩
  · refine ⟨?_, fun k x y hx hy => ?_⟩
    · show (flat (b.xs.set i v)).length = vs'.length
      rw [flat_length (uni_set g1 hl), k3, hvl]
      simp
    · have hx : (flat (b.xs.set i v))[k]? = some x := hx
      rw [flat_set g1 hi hl] at hx
      rw [k4 k] at hy
      by_cases hk : i * b.sz ≤ k ∧ k < i * b.sz + b.sz
      · rw [if_pos hk] at hx
        rw [if_pos (by omega)] at hy
        exact hR.2 _ x y hx hy
      · rw [if_neg hk] at hx
        rw [if_neg (by omega)] at hy
        exact hRv.2 k x y hx hy

theorem run_aStore {t : TypeId} {sh : Sh} {h h' : Hp} {ap av : AV} {vp vv : Value} (hh : SimH M0 w0 ρ h w) (hsh : ShOK P t sh)
    (hp : RepT w (inM M0 ρ h) ρ h ap vp) (hv : RepT w (inM M0 ρ h) ρ h av vv) (hr : aStore sh h ap av = some h') :
    ∃ w', (Instr.storeAt t vp vv).run P w = .ok () w' ∧ SimH M0 w0 ρ h' w' ∧ (∀ x v, RepT w (inM M0 ρ h) ρ h x v → RepT w' (inM M0 ρ h') ρ h' x v) := by
  have fin : ∀ {id i : Nat} {b : Buf} {v : AV} {w' : World}, h id = some b → SimH M0 w0 ρ (upd h id (some { b with xs := b.xs.set i v })) w' → w.heap.size ≤ w'.heap.size → (∀ k, k < w.heap.size → ¬ inM M0 ρ h k → w'.heap[k]? = w.heap[k]?) →
      (∀ x u, RepT w (inM M0 ρ h) ρ h x u → RepT w' (inM M0 ρ (upd h id (some { b with xs := b.xs.set i v }))) ρ (upd h id (some { b with xs := b.xs.set i v })) x u) :=
    fun {id i b v w'} hb _ hs hk x u hx => RepT.write (b' := { b with xs := b.xs.set i v }) hb hs rfl (by simp) hk hx
  unfold aStore at hr
  split at hr
  · rename_i id i off
    split at hr
    · rename_i b hb
      obtain ⟨b', hb', hlt, g, n', cap, hρ, rfl⟩ := hp
      rw [hb] at hb'
      cases hb'
      split at hr
      · cases hr
      · rename_i fs sz z
        split at hr
        · rename_i hc
          obtain ⟨rfl, rfl, hl, hall, hna, _⟩ := hc
          cases hr
          have hnr : refId av = none := by cases av <;> first | rfl | (simp [notAgg] at hna)
          have hvr := RepT.rep hnr hv
          obtain ⟨hR, h1⟩ := hvr.cells hall
          obtain ⟨fields, ti, zv, hu, hi, hsz, _⟩ := hsh
          have hag : ∃ vs, vv = .agg vs := by cases hvr <;> simp [notAgg] at hna; exact ⟨_, rfl⟩
          obtain ⟨vs, rfl⟩ := hag
          have hvl : vs.size = b.sz := by rw [← hl, hR.1]; simp [Value.cells]
          obtain ⟨w', k1, k2, k3, k4⟩ := run_store_own (P := P) (t := t) (u := .agg vs) (v := av) (i := i) hh hb hρ hlt rfl hR h1 hl (fun w g1 g2 => by
            have := run_storeVar_mid (P := P) w g (i * b.sz) t vs (fun j hj => ⟨g1 j (by simpa [Value.cells] using hj), g2 j (by simpa [Value.cells] using hj)⟩) (by rw [hi]; simp [hsz, hvl]) (by
              rw [Array.all_eq_true_iff_forall_mem]
              intro x hx
              exact h1 x (by simpa [Value.cells] using hx))
            simpa [Instr.storeAt, Instr.sureAddr, Value.cells] using this)
          exact ⟨w', by rw [Nat.add_zero]; exact k1, k2, fin hb k2 k3 k4⟩
        · cases hr
      · rename_i g1 g2
        split at hr
        · rename_i hc
          obtain ⟨hsz, rfl, hna, hca, _, hna2⟩ := hc
          cases hr
          have hnr : refId av = none := by cases av <;> first | rfl | (simp [cellAV] at hca)
          have hcs : cellsOf av = [av] := by cases av <;> first | rfl | (simp [notAgg] at hna)
          have hvr := RepT.rep hnr hv
          obtain ⟨hR, h1⟩ := hvr.cells (by rw [hcs]; simpa using hca)
          obtain ⟨q1, q2⟩ := hsh.scalar (fun e => g1 e) (fun fs sz z e => g2 fs sz z e)
          have ho := hvr.oneCell hca
          have hvc : vv.cells = #[vv] := by cases vv <;> first | rfl | (simp [Value.oneCell'] at ho)
          have hsize : ∃ ti, P.info? t = some ti ∧ ti.size = 1 := by
            have : (P.info? t).map (·.size) = some 1 := by
              cases sh with
              | int k => exact hsh.2
              | bool => exact hsh.2
              | str => exact hsh.2
              | slice e sz by_ z ek => exact hsh.2.1
              | struct fs sz z => exact absurd rfl (g2 fs sz z)
              | other => exact absurd rfl g1
            obtain ⟨ti, h1, h2⟩ := Option.map_eq_some_iff.1 this
            exact ⟨ti, h1, h2⟩
          obtain ⟨ti, hti, hts⟩ := hsize
          obtain ⟨w', k1, k2, k3, k4⟩ := run_store_own (P := P) (t := t) (u := vv) (v := av) (i := i) hh hb hρ hlt rfl hR h1 (by rw [hcs, hsz]; rfl) (fun w g1 g2 => by
            have hh1 := run_storeCells_cells (P := P) g (i * b.sz) [vv] 0 w (fun j hj => by
              have : j = 0 := by simp at hj; exact hj
              subst this
              simpa using g1 0 (by rw [hvc]; simp)) (fun j hj => by
              have : j = 0 := by simp at hj; exact hj
              subst this
              simpa using g2 0 (by rw [hvc]; simp)) (by simpa using ho)
            simp only [Instr.storeAt, Instr.sureAddr, storeVar, sizeOf, typeInfo, Sem.run_bind, run_program, hti, hts, hvc, Result.andThen, Sem.run_pure]
            simpa using hh1)
          exact ⟨w', by rw [Nat.add_zero]; exact k1, k2, fin hb k2 k3 k4⟩
        · cases hr
    · cases hr
  · cases hr

end
end Go.Abs

/- Cuts, rows that are made, appends. -/
namespace Go.Abs
open Go Go.RowKit
set_option linter.unusedVariables false
set_option linter.unusedSimpArgs false

section
variable {P : Program} {n : Nat} {M0 : Nat → Prop} {w0 : Bs} {ρ : Nat → Value} {σ σ' : St} {a : Act} {w : World} {o : Oper} {Q : Exit → Act → World → Prop}

theorem uni_of_uniB {sz : Nat} {xs : List AV} (h : uniB sz xs = true) : uni sz xs := fun x hx => by
  have := List.all_eq_true.1 h x hx
  simpa using this

theorem lenAV_len {h : Hp} {x : AV} {v : Value} {k : Int} (hh : SimH M0 w0 ρ h w) (hx : RepT w (inM M0 ρ h) ρ h x v) (hl : lenAV h x = some k) : (∃ (ad : Option Addr) (l c : Nat), v = .slice ad l c ∧ (l : Int) = k ∧ l ≤ c) ∨ ∃ s, x = .val (.string s) ∧ v = .string s ∧ (s.size : Int) = k := by
  unfold lenAV at hl
  split at hl
  · cases hl
    have hx : Rep w (inM M0 ρ h) (.lst _) v := hx
    cases hx with
    | lst _ ad c sz b o f h1 => exact .inl ⟨ad, _, c, rfl, rfl, h1⟩
  · cases hl
    obtain rfl := hx.val_eq
    exact .inl ⟨none, 0, 0, rfl, rfl, Nat.le_refl _⟩
  · cases hl
    obtain rfl := hx.val_eq
    exact .inr ⟨_, rfl, rfl, rfl⟩
  · rename_i id
    obtain ⟨b, hb, rfl⟩ := hx
    simp [hb] at hl
    obtain ⟨_, _, vs, hown, _⟩ := hh.own id b hb
    rcases hown.2 with ⟨hv, h0⟩ | ⟨g, cap, cur, hv, _, _, hle, _⟩
    · exact .inl ⟨none, 0, 0, hv, by omega, Nat.le_refl _⟩
    · exact .inl ⟨_, _, cap, hv, hl, hle⟩
  · cases hl
    obtain ⟨b, hb, _, ad, c, rfl, h2, _⟩ := hx
    exact .inl ⟨ad, _, c, rfl, rfl, h2⟩
  · cases hl

/-- A bound of a cut, as the operation has it. -/
def BoundIs (v : Option Value) (d k : Int) : Prop := (v = none ∧ k = d) ∨ ∃ kd, v = some (.int kd k)

theorem run_bound (kd : IntKind) (i : Int) (y : Nat) (code : BoundsCode) (h0 : 0 ≤ i) (h1 : i ≤ y) (w : World) : (Instr.sliceBound (.int kd i) y code).run P w = .ok i.toNat w := by
  simp [Instr.sliceBound, asIntOf, h0, h1]

theorem run_bounds {isS : Bool} {len cap : Nat} {lo hi mx : Option Value} {l m : Int}
    (hlo : BoundIs lo 0 l) (hhi : BoundIs hi len m) (hmx : mx = none ∨ (hi ≠ none ∧ ∃ kd, mx = some (.int kd m))) (h0 : 0 ≤ l) (h1 : l ≤ m) (h2 : m ≤ cap) (w : World) :
    ∃ c : Nat, m ≤ c ∧ c ≤ cap ∧ (mx = none → c = cap) ∧ (Instr.sliceBounds isS len cap lo hi mx).run P w = .ok (l.toNat, m.toNat, c) w := by
  have hm : (m.toNat : Int) = m := Int.toNat_of_nonneg (by omega)
  have b1 : ∀ (kd : IntKind) (y : Nat) (code : BoundsCode) (w : World), m ≤ y → (Instr.sliceBound (.int kd m) y code).run P w = .ok m.toNat w := fun kd y code w hy => run_bound kd m y code (by omega) hy w
  have b2 : ∀ (kd : IntKind) (code : BoundsCode) (w : World), (Instr.sliceBound (.int kd l) m.toNat code).run P w = .ok l.toNat w := fun kd code w => run_bound kd l _ code h0 (by omega) w
  rcases hmx with rfl | ⟨hne, kd, rfl⟩
  · refine ⟨cap, h2, Nat.le_refl _, fun _ => rfl, ?_⟩
    rcases hlo with ⟨rfl, e1⟩ | ⟨k1, rfl⟩ <;> rcases hhi with ⟨rfl, e2⟩ | ⟨k2, rfl⟩
    · have : len = m.toNat := by omega
      subst e1
      simp [Instr.sliceBounds, Result.andThen, this]
    · subst e1
      simp only [Instr.sliceBounds, Sem.run_bind, Sem.run_pure, Result.andThen, b1 _ _ _ _ h2]
      rfl
    · have e3 : len = m.toNat := by omega
      subst e3
      simp only [Instr.sliceBounds, Sem.run_bind, Sem.run_pure, Result.andThen, b2]
    · simp only [Instr.sliceBounds, Sem.run_bind, Sem.run_pure, Result.andThen, b1 _ _ _ _ h2, b2]
  · refine ⟨m.toNat, by omega, by omega, (fun h => by cases h), ?_⟩
    rcases hhi with ⟨rfl, e2⟩ | ⟨k2, rfl⟩
    · exact absurd rfl hne
    · rcases hlo with ⟨rfl, e1⟩ | ⟨k1, rfl⟩
      · subst e1
        simp only [Instr.sliceBounds, Sem.run_bind, Sem.run_pure, Result.andThen, b1 _ _ _ _ h2, b1 _ _ _ _ (show m ≤ (m.toNat : Int) by omega)]
        rfl
      · simp only [Instr.sliceBounds, Sem.run_bind, Sem.run_pure, Result.andThen, b1 _ _ _ _ h2, b1 _ _ _ _ (show m ≤ (m.toNat : Int) by omega), b2]

theorem run_slice_gen {t e : TypeId} {sz : Nat} (hu : P.underlying t = some (.slice e)) (hso : (sizeOf e).run P w = .ok sz w) {ad : Option Addr} {len cap : Nat} {lo hi mx : Option Value} {l m : Int}
    (hlo : BoundIs lo 0 l) (hhi : BoundIs hi len m) (hmx : mx = none ∨ (hi ≠ none ∧ ∃ kd, mx = some (.int kd m))) (h0 : 0 ≤ l) (h1 : l ≤ m) (h2 : m ≤ cap) :
    ∃ c : Nat, m ≤ c ∧ c ≤ cap ∧ (Instr.sliceAt t (.slice ad len cap) lo hi mx).run P w = .ok (.slice (if c = l.toNat then ad else ad.map (·.add (l.toNat * sz))) (m - l).toNat (c - l.toNat)) w := by
  obtain ⟨c, k1, k2, _, k3⟩ := run_bounds (P := P) (isS := true) hlo hhi hmx h0 h1 h2 w
  refine ⟨c, k1, k2, ?_⟩
  have hml : (m - l).toNat = m.toNat - l.toNat := by omega
  simp only [Instr.sliceAt, Instr.slice, Sem.run_bind, run_underlying hu, Result.andThen, k3, hso, Sem.run_pure, hml]

theorem run_slice_str {t : TypeId} (hu : P.underlying t = some .string) {s : ByteArray} {lo hi : Option Value} {l m : Int}
    (hlo : BoundIs lo 0 l) (hhi : BoundIs hi s.size m) (h0 : 0 ≤ l) (h1 : l ≤ m) (h2 : m ≤ s.size) :
    (Instr.sliceAt t (.string s) lo hi none).run P w = .ok (.string (s.extract l.toNat m.toNat)) w := by
  obtain ⟨c, k1, k2, _, k3⟩ := run_bounds (P := P) (isS := false) (mx := none) hlo hhi (.inl rfl) h0 h1 h2 w
  simp [Instr.sliceAt, Instr.slice, run_underlying hu, Result.andThen, k3]

theorem run_aSlice {t : TypeId} {sh : Sh} {ax r : AV} {vx : Value} {h : Hp} {lo hi mx : Option Value} {k l m : Int} (hh : SimH M0 w0 ρ h w) (hsh : ShOK P t sh)
    (hx : RepT w (inM M0 ρ h) ρ h ax vx) (hk : lenAV h ax = some k) (hlo : BoundIs lo 0 l) (hhi : BoundIs hi k m) (hmx : mx = none ∨ (hi ≠ none ∧ ∃ kd, mx = some (.int kd m))) (hstr : mx = none ∨ sh ≠ .str)
    (hr : aSlice sh h ax (some l) (some m) (some m) = some r) :
    ∃ v, RepT w (inM M0 ρ h) ρ h r v ∧ (Instr.sliceAt t vx lo hi mx).run P w = .ok v w := by
  unfold aSlice at hr
  rw [hk] at hr
  simp only at hr
  split at hr
  · rename_i hc
    obtain ⟨h0, h1, h2, _⟩ := hc
    have hso : ∀ {e sz by_ z ek}, ShOK P t (.slice e sz by_ z ek) → (sizeOf e).run P w = .ok sz w := fun hs => by
      obtain ⟨_, _, _, _, ti, zv, hi, hsz, _⟩ := hs
      simp [sizeOf, typeInfo, hi, hsz]
    split at hr
    · rename_i e sz by_ z ek xs
      split at hr
      · rename_i hun
        cases hr
        have hx : Rep w (inM M0 ρ h) (.lst xs) vx := hx
        cases hx with
        | lst _ ad c sz' b off f g1 g2 g3 g4 g5 =>
          have hkx : k = xs.length := by simpa [lenAV] using hk.symm
          subst hkx
          obtain ⟨c', q1, q2, q3⟩ := run_slice_gen (w := w) (ad := ad) hsh.1 (hso hsh) hlo hhi hmx h0 h1 (by omega : m ≤ (c : Int))
          have hln : ((xs.take m.toNat).drop l.toNat).length = (m - l).toNat := by simp; omega
          refine ⟨_, RepT.of_rep ?_, q3⟩
          rw [← hln]
          refine .lst _ _ _ sz' b (off + l.toNat * sz') (fun j => f (l.toNat * sz' + j)) (by omega) (uni_drop _ (uni_take _ g2)) (fun hp => ?_) (fun j y hy => ?_) (fun j y hy => ?_)
          · obtain ⟨rfl, g6, g7⟩ := g3 (by omega)
            refine ⟨?_, g6, g7⟩
            rw [if_neg (by omega)]
            simp only [Option.map_some, add_zero_spot]
            rcases hun with h00 | hun
            · subst h00; simp
            · have : sz' = sz := by
                have hx0 : 0 < xs.length := by omega
                have e1 := g2 xs[0] (List.getElem_mem hx0)
                have e2 := uni_of_uniB hun xs[0] (List.getElem_mem hx0)
                omega
              rw [this]
          · rw [flat_drop _ (uni_take _ g2), flat_take _ g2, List.getElem?_drop, List.getElem?_take] at hy
            split at hy
            · rw [Nat.add_assoc]
              exact g4 _ y hy
            · cases hy
          · rw [flat_drop _ (uni_take _ g2), flat_take _ g2, List.getElem?_drop, List.getElem?_take] at hy
            split at hy
            · exact g5 _ y hy
            · cases hy
      · cases hr
    · rename_i e sz by_ z ek id off len
      split at hr
      · rename_i hun
        cases hr
        have hkx : k = len := by simpa [lenAV] using hk.symm
        subst hkx
        obtain ⟨b, hb, hle, ad, c, rfl, hlc, hat⟩ := hx
        have hsz : b.sz = sz := by simpa [hb] using hun
        obtain ⟨c', q1, q2, q3⟩ := run_slice_gen (w := w) (ad := ad) hsh.1 (hso hsh) hlo hhi hmx h0 h1 (by omega : m ≤ (c : Int))
        refine ⟨_, ⟨b, hb, by omega, _, _, rfl, by omega, fun hp => ?_⟩, q3⟩
        obtain ⟨g, n', cap, hv, rfl⟩ := hat (by omega)
        refine ⟨g, n', cap, hv, ?_⟩
        rw [if_neg (by omega)]
        simp only [Option.map_some, add_zero_spot]
        rw [hsz, Nat.add_mul]
      · cases hr
    · rename_i e sz by_ z ek id
      split at hr
      · rename_i hun
        cases hr
        obtain ⟨b, hb, rfl⟩ := hx
        have hkx : k = b.xs.length := by simpa [lenAV, hb] using hk.symm
        subst hkx
        have hsz : b.sz = sz := by simpa [hb] using hun
        obtain ⟨_, _, vs, hown, _⟩ := hh.own id b hb
        rcases hown.2 with ⟨hv, hn0⟩ | ⟨g, cap, cur, hv, _, _, hle, _⟩
        · rw [hv]
          have hb0 : (b.xs.length : Int) = ((0 : Nat) : Int) := by omega
          rw [hb0] at hhi
          obtain ⟨c', q1, q2, q3⟩ := run_slice_gen (w := w) (ad := none) (len := 0) (cap := 0) hsh.1 (hso hsh) hlo hhi hmx h0 h1 (by omega)
          exact ⟨_, ⟨b, hb, by omega, _, _, rfl, by omega, fun hp => by omega⟩, q3⟩
        · rw [hv]
          obtain ⟨c', q1, q2, q3⟩ := run_slice_gen (w := w) (ad := some ⟨g, 0, none⟩) hsh.1 (hso hsh) hlo hhi hmx h0 h1 (by omega : m ≤ (cap : Int))
          refine ⟨_, ⟨b, hb, by omega, _, _, rfl, by omega, fun hp => ⟨g, _, cap, hv, ?_⟩⟩, q3⟩
          rw [if_neg (by omega)]
          simp only [Option.map_some, add_zero_spot]
          rw [hsz, Nat.zero_add]
      · cases hr
    · cases hr
      obtain rfl := hx.val_eq
      rename_i s'
      have hkx : k = s'.size := by simpa [lenAV] using hk.symm
      subst hkx
      rcases hstr with rfl | hne
      · exact ⟨_, RepT.of_rep (.val _), run_slice_str hsh.1 hlo hhi h0 h1 h2⟩
      · exact absurd rfl hne
    · cases hr
  · cases hr

end
end Go.Abs

/- Rows that are made and appended to. -/
namespace Go.Abs
open Go Go.RowKit
set_option linter.unusedVariables false
set_option linter.unusedSimpArgs false

section
variable {P : Program} {n : Nat} {M0 : Nat → Prop} {w0 : Bs} {ρ : Nat → Value} {σ σ' : St} {a : Act} {w : World} {o : Oper} {Q : Exit → Act → World → Prop}

theorem below_of_grown {w' : World} (hg : w.grownBy w' none) : Below w.heap.size w w' := ⟨hg.os, hg.tape, hg.output, hg.size, fun k hk => hg.block k hk (by simp)⟩

theorem flat_replicate {z : AV} {sz : Nat} (hz : (cellsOf z).length = sz) (h0 : 0 < sz) : ∀ (m k : Nat), (flat (List.replicate m z))[k]? = if k < m * sz then (cellsOf z)[k % sz]? else none
  | 0, k => by simp [flat]
  | m + 1, k => by
    have ih := flat_replicate hz h0 m
    simp only [List.replicate_succ, flat]
    have e : (m + 1) * sz = m * sz + sz := by rw [Nat.add_mul]; omega
    by_cases hk : k < sz
    · rw [List.getElem?_append_left (by omega), if_pos (by omega), Nat.mod_eq_of_lt hk]
    · rw [List.getElem?_append_right (by omega), ih, hz]
      have : k % sz = (k - sz) % sz := by rw [Nat.mod_eq_sub_mod (by omega)]
      rw [this]
      by_cases h2 : k - sz < m * sz
      · rw [if_pos h2, if_pos (by omega)]
      · rw [if_neg h2, if_neg (by omega)]

theorem uni_replicate {z : AV} {sz : Nat} (hz : (cellsOf z).length = sz) (m : Nat) : uni sz (List.replicate m z) := fun x hx => by
  rw [List.eq_of_mem_replicate hx]; exact hz

theorem run_aMake {t e : TypeId} {sz by_ : Nat} {z : AV} {ek : Option IntKind} {h : Hp} {d : Nat} {kl kc : IntKind} {m : Int} (hh : SimH M0 w0 ρ h w) (hsh : ShOK P t (.slice e sz by_ z ek))
    (h0 : 0 ≤ m) (hb : (by_ : Int) * m ≤ 281474976710656) (h63 : m ≤ 9223372036854775807) (hd : h d = none) :
    ∃ v w', (Instr.makeSlice t (.int kl m) (.int kc m)).run P w = .ok v w' ∧ SimH M0 w0 (upd ρ d v) (upd h d (some ⟨e, sz, List.replicate m.toNat z, none⟩)) w' ∧
      Below w.heap.size w w' ∧ (∀ k, v.ownBlock = some k → w.heap.size ≤ k) := by
  obtain ⟨hu, _, hpos, _, ti, zv, hi, hsz, hby, hz, hzs, hzl, hzR⟩ := hsh
  obtain ⟨m', rfl⟩ := Int.eq_ofNat_of_zero_le h0
  have hb' : ti.bytes * m' ≤ 281474976710656 := by
    rw [hby]
    have h := hb
    rw [← Int.natCast_mul] at h
    omega
  obtain ⟨w', k1, k2, k3⟩ := run_make_full (P := P) w w0.base t e ti zv sz hu hi hz hsz kl kc m' hb' (by unfold maxLen; omega) hh.below.base_le
  have hB := below_of_grown k3
  have hnew : ∀ k, (Value.slice (some ⟨w.heap.size, 0, none⟩) m' m').ownBlock = some k → w.heap.size ≤ k := fun k hk => by
    simp [Value.ownBlock] at hk; omega
  refine ⟨_, w', k1, SimH.fresh hh hB hd rfl hnew ⟨uni_replicate hzl _, hpos, _, by simpa using k2, ?_⟩, hB, hnew⟩
  have hR := hzR w' (inM M0 (upd ρ d (.slice (some ⟨w.heap.size, 0, none⟩) m' m')) (upd h d (some ⟨e, sz, List.replicate (m' : Int).toNat z, none⟩)))
  refine ⟨?_, fun k x v hx hv => ?_⟩
  · rw [flat_length (uni_replicate hzl _)]
    simp [madeCells]
  · have hx : (flat (List.replicate (m' : Int).toNat z))[k]? = some x := hx
    rw [flat_replicate hzl hpos] at hx
    split at hx
    · rename_i hk
      have hk' : k < m' * sz := by simpa using hk
      have hmod : k % sz < sz := Nat.mod_lt _ hpos
      refine hR.2 (k % sz) x v hx ?_
      simp [madeCells, hk'] at hv
      rw [← hv, hzs]
      rw [Array.getElem?_toList]
      simp [hzs, hmod]
    · cases hx

theorem run_append_gen {t e : TypeId} {sz by_ : Nat} {z : AV} {ek : Option IntKind} {h : Hp} {ax : AV} {vx v : Value} {ys : List AV} {vs : List Value} {m : Nat} (ty : TypeId) (hh : SimH M0 w0 ρ h w) (hsh : ShOK P t (.slice e sz by_ z ek))
    (hx : RepT w (inM M0 ρ h) ρ h ax vx) (he : elems h ax = some ys) (hys : ys.all (elemOk sz) = true) (hb : (m + ys.length) * by_ ≤ 140737488355328) (h63 : m + ys.length ≤ 9223372036854775807)
    (hown : w.ownsRow w0.base e sz v m vs) :
    ∃ v' w' news, (Builtin.append_ #[t, t] ty #[v, vx]).run P w = .ok v' w' ∧ w'.ownsRow w0.base e sz v' (m + ys.length) (vs ++ news) ∧ w.grownBy w' v.ownBlock ∧
      (v'.ownBlock = v.ownBlock ∨ v'.ownBlock = some w.heap.size) ∧ RepL w (inM M0 ρ h) (flat ys) news := by
  obtain ⟨hu, _, hpos, _, ti, zv, hi, hsz, hby, hz, hzs, hzl, hzR⟩ := hsh
  have huni : uni sz ys := fun y hy => by
    have := List.all_eq_true.1 hys y hy
    simp [elemOk] at this
    exact this.1.1.1
  obtain ⟨ad, c, sz', b, off, f, rfl, g1, g2, g3, g4, g5, _⟩ := elems_rep hh hx he
  have hfl : (flat ys).length = ys.length * sz := flat_length huni
  by_cases h0 : 0 < ys.length
  · obtain ⟨rfl, g6⟩ := g3 h0
    have hnl : ((List.range (ys.length * sz)).map f).length = ys.length * sz := by simp
    have hone : ∀ u ∈ (List.range (ys.length * sz)).map f, u.oneCell' = true := by
      intro u hu'
      obtain ⟨j, hj, rfl⟩ := List.mem_map.1 hu'
      have hj' : j < (flat ys).length := by rw [hfl]; exact List.mem_range.1 hj
      have hR := g5 j _ (List.getElem?_eq_getElem hj')
      refine hR.oneCell ?_
      have hall : ∀ (l : List AV), l.all (elemOk sz) = true → ∀ y ∈ flat l, cellAV y = true := by
        intro l
        induction l with
        | nil => intro _ y hy; simp [flat] at hy
        | cons x l ih =>
          intro hl y hy
          simp only [List.all_cons, Bool.and_eq_true] at hl
          simp only [flat, List.mem_append] at hy
          rcases hy with hy | hy
          · have := hl.1
            simp only [elemOk, Bool.and_eq_true] at this
            exact List.all_eq_true.1 this.1.1.2 y hy
          · exact ih hl.2 y hy
      exact hall ys hys _ (List.getElem_mem hj')
    obtain ⟨v', w', k1, k2, k3, _, k4⟩ := run_append_own_at (P := P) w w0.base t ty e ti zv sz by_ hu hi hz hsz hby hzs hpos v m vs hown ⟨b, off, none⟩ ys.length c ((List.range (ys.length * sz)).map f) hnl
      (fun j u hj => by
        have hj' : j < ys.length * sz := by have := (List.getElem?_eq_some_iff.1 hj).1; simpa using this
        simp [hj'] at hj
        subst hj
        rw [add_zero_spot]
        exact g4 j _ (List.getElem?_eq_getElem (by omega))) hone (by unfold maxLen; omega) hb hh.below.base_le
    refine ⟨v', w', _, k1, k2, k3, k4, by rw [hnl, hfl], fun j x u hx hu' => ?_⟩
    have hj' : j < ys.length * sz := by have := (List.getElem?_eq_some_iff.1 hx).1; omega
    simp [hj'] at hu'
    subst hu'
    exact g5 j x hx
  · have hy : ys = [] := List.eq_nil_of_length_eq_zero (by omega)
    subst hy
    cases ad with
    | none =>
      have hc : c = 0 ∨ True := .inr trivial
      have hr : (Builtin.append_ #[t, t] ty #[v, .slice none 0 c]).run P w = .ok v w := by
        rcases hown.2 with ⟨rfl, rfl⟩ | ⟨g, cap, cur, rfl, _, _, hnc, _⟩
        · simp [Builtin.append_, run_underlying hu, sizeOf, typeInfo, hi, Builtin.lenOf, Builtin.firstCells]
        · simp [Builtin.append_, run_underlying hu, sizeOf, typeInfo, hi, Builtin.lenOf, Builtin.firstCells, hnc, storeCells]
      exact ⟨v, w, [], hr, by simpa using hown, ⟨rfl, rfl, rfl, Nat.le_refl _, fun _ _ _ => rfl⟩, .inl rfl, .nil⟩
    | some ad =>
      obtain ⟨v', w', k1, k2, k3, _, k4⟩ := run_append_own_at (P := P) w w0.base t ty e ti zv sz by_ hu hi hz hsz hby hzs hpos v m vs hown ad 0 c [] (by simp)
        (fun j u hj => by simp at hj) (by simp) (by unfold maxLen; simp at h63; omega) (by simpa using hb) hh.below.base_le
      exact ⟨v', w', [], by simpa using k1, by simpa using k2, k3, k4, .nil⟩

/-- An own row is appended to. -/
theorem SimH.append {h : Hp} {id : Nat} {b b' : Buf} {w' : World} {v' : Value} {vs' : List Value} (hs : SimH M0 w0 ρ h w) (hb : h id = some b) (hg : w.grownBy w' (ρ id).ownBlock)
    (hv : v'.ownBlock = (ρ id).ownBlock ∨ v'.ownBlock = some w.heap.size) (hhdr : b'.hdr = none) (hu : uni b'.sz b'.xs) (h0 : 0 < b'.sz) (hown : w'.ownsRow w0.base b'.e b'.sz v' b'.xs.length vs') (hR : RepL w (inM M0 ρ h) (flat b'.xs) vs') :
    SimH M0 w0 (upd ρ id v') (upd h id (some b')) w' ∧
      (∀ x v, refId x ≠ some id → RepT w (inM M0 ρ h) ρ h x v → RepT w' (inM M0 (upd ρ id v') (upd h id (some b'))) (upd ρ id v') (upd h id (some b')) x v) := by
  have hB := hs.own id b hb
  have hk : ∀ k, k < w.heap.size → ¬ inM M0 ρ h k → w'.heap[k]? = w.heap[k]? := fun k hk hm => hg.block k hk (fun e => hm (.inr ⟨id, b, hb, e.symm⟩))
  have hM : ∀ k, k < w.heap.size → inM M0 (upd ρ id v') (upd h id (some b')) k → inM M0 ρ h k := by
    intro k hk' hm
    rcases hm with hm | ⟨i, bf, h1, h2⟩
    · exact .inl hm
    · by_cases hid : i = id
      · subst hid
        rw [upd_same] at h2
        rcases hv with hv | hv
        · exact .inr ⟨i, b, hb, by rw [← hv]; exact h2⟩
        · rw [hv] at h2; cases h2; omega
      · rw [upd_ne _ _ hid] at h1 h2
        exact .inr ⟨i, bf, h1, h2⟩
  refine ⟨⟨hs.below.grown hg (fun k hk => hs.off id b k hb hk), fun i bi k hi hki => ?_, fun i bi u hi hu' => ?_, hs.m0, fun i bi hi => ?_, fun i j bi bj k hij hi hj hki hkj => ?_⟩, fun x v hx hr => ?_⟩
  · by_cases hid : i = id
    · subst hid
      rw [upd_same] at hki
      rcases hv with hv | hv
      · exact hs.off i b k hb (by rw [← hv]; exact hki)
      · rw [hv] at hki
        cases hki
        have := hs.below.size
        exact fun hc => by omega
    · rw [upd_ne _ _ hid] at hi hki; exact hs.off i bi k hi hki
  · by_cases hid : i = id
    · subst hid
      rw [upd_same] at hi
      cases hi
      rw [hhdr] at hu'; cases hu'
    · rw [upd_ne _ _ hid] at hi ⊢; exact hs.hdr i bi u hi hu'
  · by_cases hid : i = id
    · subst hid
      rw [upd_same] at hi ⊢
      cases hi
      exact ⟨hu, h0, vs', hown, hR.keep hg.size hk hM⟩
    · rw [upd_ne _ _ hid] at hi ⊢
      refine (hs.own i bi hi).keep (.inr ⟨_, hg, ?_⟩) hk hM
      cases hv0 : (ρ i).ownBlock with
      | none => exact .inl rfl
      | some g => exact .inr (fun e => hs.apart i id bi b g hid hi hb hv0 e.symm)
  · have key : ∀ i bi k, i ≠ id → h i = some bi → (ρ i).ownBlock = some k → v'.ownBlock ≠ some k := by
      intro i bi k hid hi hki hvk
      rcases hv with hv | hv
      · exact hs.apart i id bi b k hid hi hb hki (by rw [← hv]; exact hvk)
      · have := (hs.own i bi hi).lt k hki
        rw [hv] at hvk
        cases hvk
        omega
    by_cases hid : i = id
    · subst hid
      rw [upd_same] at hki
      rw [upd_ne _ _ (Ne.symm hij)] at hj hkj
      exact key j bj k (Ne.symm hij) hj hkj hki
    · by_cases hjd : j = id
      · subst hjd
        rw [upd_same] at hkj
        rw [upd_ne _ _ hid] at hi hki
        exact key i bi k hid hi hki hkj
      · rw [upd_ne _ _ hid] at hi hki
        rw [upd_ne _ _ hjd] at hj hkj
        exact hs.apart i j bi bj k hij hi hj hki hkj
  · refine hr.keep hg.size hk hM (fun i bi hi hbi => ?_)
    have hid : i ≠ id := fun e => hx (by rw [hi, e])
    exact ⟨bi, by rw [upd_ne _ _ hid]; exact hbi, upd_ne _ _ hid, rfl, Nat.le_refl _⟩

end
end Go.Abs

/- A literal row; calls; one operation, whole. -/
namespace Go.Abs
open Go Go.RowKit
set_option linter.unusedVariables false
set_option linter.unusedSimpArgs false

section
variable {P : Program} {n : Nat} {M0 : Nat → Prop} {w0 : Bs} {ρ : Nat → Value} {σ σ' : St} {a : Act} {w : World} {o : Oper} {Q : Exit → Act → World → Prop}

theorem foldl_put : ∀ (us : List (Value × Nat)) (off j : Nat) (cells : Array Value), (∀ (i : Nat) p, us[i]? = some p → p.2 = j + i) → off + j + us.length ≤ cells.size →
    (us.foldl (fun cs (p : Value × Nat) => cs.setIfInBounds (off + p.2) p.1) cells).size = cells.size ∧
    ∀ k : Nat, (us.foldl (fun cs (p : Value × Nat) => cs.setIfInBounds (off + p.2) p.1) cells)[k]? = if off + j ≤ k ∧ k < off + j + us.length then (us[k - (off + j)]?).map (·.1) else cells[k]?
  | [], off, j, cells, _, _ => ⟨rfl, fun k => by rw [if_neg (by simp)]; rfl⟩
  | u :: us, off, j, cells, h, hl => by
    simp only [List.length_cons] at hl
    have h0 : u.2 = j := by simpa using h 0 u rfl
    obtain ⟨h1, h2⟩ := foldl_put us off (j + 1) (cells.setIfInBounds (off + u.2) u.1) (fun i p hp => by have := h (i + 1) p (by simpa using hp); omega) (by simp; omega)
    refine ⟨by simpa using h1, fun k => ?_⟩
    simp only [List.foldl_cons]
    rw [h2 k]
    by_cases hk : off + (j + 1) ≤ k ∧ k < off + (j + 1) + us.length
    · rw [if_pos hk, if_pos (by simp; omega), show k - (off + j) = (k - (off + (j + 1))) + 1 by omega]
      simp
    · rw [if_neg hk, h0]
      by_cases hkj : k = off + j
      · subst hkj
        rw [if_pos (by simp)]
        simp [Array.getElem?_setIfInBounds]
        omega
      · rw [if_neg (by simp; omega), Array.getElem?_setIfInBounds_ne (by omega)]

theorem fill_one (size i : Nat) (cells : Array Value) (v : Value) (rest : List (Nat × Value)) (hv : v.cells.size = size) (hl : i * size + size ≤ cells.size) :
    ∃ cells', Instr.fill (fun i => some (i * size, size)) cells ((i, v) :: rest) = Instr.fill (fun i => some (i * size, size)) cells' rest ∧ cells'.size = cells.size ∧
      ∀ k : Nat, cells'[k]? = if i * size ≤ k ∧ k < i * size + size then v.cells[k - i * size]? else cells[k]? := by
  have hf := foldl_put v.cells.zipIdx.toList (i * size) 0 cells (fun j p hp => by
    rw [Array.toList_zipIdx] at hp
    simp at hp
    obtain ⟨a, h1, rfl⟩ := hp
    simp) (by simp; omega)
  refine ⟨v.cells.zipIdx.foldl (fun cs (p : Value × Nat) => cs.setIfInBounds (i * size + p.2) p.1) cells, ?_, ?_, fun k => ?_⟩
  · simp only [Instr.fill]
    rw [if_neg (by simp; omega)]
  · rw [← Array.foldl_toList]; exact hf.1
  · rw [← Array.foldl_toList, hf.2 k]
    simp only [Nat.add_zero, Array.length_toList, Array.size_zipIdx, hv]
    split
    · rename_i h
      rw [Array.toList_zipIdx]
      simp
      cases h1 : v.cells[k - i * size]? <;> simp
    · rfl

theorem fill_all {size : Nat} : ∀ (ps : List (Nat × Value)) (i : Nat) (cells : Array Value) (m : Nat), (∀ (j : Nat) p, ps[j]? = some p → p.1 = i + j ∧ p.2.cells.size = size) → i + ps.length = m → cells.size = m * size →
    ∃ cells', Instr.fill (fun i => some (i * size, size)) cells ps = some cells' ∧ cells'.size = m * size ∧
      ∀ k : Nat, cells'[k]? = if i * size ≤ k then ((ps.flatMap fun p => p.2.cells.toList)[k - i * size]?) else cells[k]?
  | [], i, cells, m, _, hm, hs => ⟨cells, rfl, hs, fun k => by
      simp at hm
      subst hm
      split
      · rename_i h
        rw [Array.getElem?_eq_none (by omega)]
        simp
      · rfl⟩
  | (j, v) :: ps, i, cells, m, h, hm, hs => by
    obtain ⟨h1, h2⟩ := h 0 (j, v) rfl
    simp at h1
    subst h1
    simp only [List.length_cons] at hm
    have hle : (j + 1) * size ≤ m * size := Nat.mul_le_mul_right _ (by omega)
    have e : (j + 1) * size = j * size + size := by rw [Nat.add_mul]; omega
    obtain ⟨c1, k1, k2, k3⟩ := fill_one size j cells v ps h2 (by omega)
    obtain ⟨c2, g1, g2, g3⟩ := fill_all ps (j + 1) c1 m (fun i p hp => by have := h (i + 1) p (by simpa using hp); exact ⟨by omega, this.2⟩) (by omega) (by omega)
    refine ⟨c2, by rw [k1, g1], g2, fun k => ?_⟩
    rw [g3 k, k3 k]
    have hvl : v.cells.toList.length = size := by simpa using h2
    simp only [List.flatMap_cons]
    by_cases hk : (j + 1) * size ≤ k
    · rw [if_pos hk, if_pos (by omega), List.getElem?_append_right (by omega), hvl]
      congr 1
      omega
    · rw [if_neg hk]
      by_cases hk2 : j * size ≤ k
      · rw [if_pos (by omega), if_pos hk2, List.getElem?_append_left (by omega)]
        simp
      · rw [if_neg (by omega), if_neg hk2]

theorem inM_lt {h : Hp} (hh : SimH M0 w0 ρ h w) {b : Nat} (hb : inM M0 ρ h b) : b < w.heap.size := by
  rcases hb with hb | ⟨id, bf, h1, h2⟩
  · exact Nat.lt_of_lt_of_le (hh.m0 b hb) hh.below.base_le
  · exact ((hh.own id bf h1).lt b h2).2

theorem elemOk_rep {sz : Nat} {h : Hp} {M : Nat → Prop} {x : AV} {v : Value} (hx : elemOk sz x = true) (hr : RepT w M ρ h x v) :
    Rep w M x v ∧ v.cells.size = sz ∧ RepL w M (cellsOf x) v.cells.toList ∧ (cellsOf x).length = sz ∧ (cellsOf x).all cellAV = true := by
  simp only [elemOk, Bool.and_eq_true, Bool.or_eq_true, beq_iff_eq, Bool.not_eq_true', bne_iff_ne] at hx
  obtain ⟨⟨⟨h1, h2⟩, _⟩, _⟩ := hx
  have hid : refId x = none := by
    cases x <;> first | rfl | (simp [cellsOf, cellAV] at h2)
  have hR := RepT.rep hid hr
  have hc := hR.cells h2
  exact ⟨hR, by rw [← Array.length_toList, ← hc.1.1, h1], hc.1, h1, h2⟩

theorem idxOk_spec : ∀ (ps : List (Nat × Operand)) (k : Nat), idxOk ps k = true → ∀ (j : Nat) p, ps[j]? = some p → p.1 = k + j
  | [], _, _, j, p, h => by simp at h
  | (i, x) :: r, k, hk, j, p, h => by
    simp only [idxOk, Bool.and_eq_true, beq_iff_eq] at hk
    cases j with
    | zero => simp at h; subst h; exact hk.1
    | succ j => have := idxOk_spec r (k + 1) hk.2 j p (by simpa using h); omega

theorem flatMap_cells (hs : Sim n M0 w0 ρ σ a w) {sz : Nat} : ∀ (ps : List (Nat × Operand)), (ps.map fun p => ev σ p.2).all (elemOk sz) = true →
    RepL w (inM M0 ρ σ.h) (flat (ps.map fun p => ev σ p.2)) ((ps.map fun p => (p.1, a.eval p.2)).flatMap fun p => p.2.cells.toList)
  | [], _ => .nil
  | p :: ps, h => by
    simp only [List.map_cons, List.all_cons, Bool.and_eq_true] at h
    simp only [List.map_cons, flat, List.flatMap_cons]
    exact (elemOk_rep h.1 (ev_rep hs p.2)).2.2.1.append (flatMap_cells hs ps h.2)

theorem run_aBuild {t e : TypeId} {sz by_ m : Nat} {z : AV} {ek : Option IntKind} {ps : Array (Nat × Operand)} (hs : Sim n M0 w0 ρ σ a w) (hsh : ShOK P t (.slice e sz by_ z ek)) (hidx : idxOk ps.toList 0 = true) (hl : ps.size = m)
    (hm : m ≤ 100) (hz100 : sz ≤ 100) (hel : (ps.toList.map fun p => ev σ p.2).all (elemOk sz) = true) :
    ∃ v w', (Instr.buildSlice t m (ps.map fun (i, x) => (i, a.eval x))).run P w = .ok v w' ∧ Below w.heap.size w w' ∧ (0 < m → Rep w' (inM M0 ρ σ.h) (.lst (ps.toList.map fun p => ev σ p.2)) v) ∧
      (m = 0 → v = .slice (some ⟨w.heap.size, 0, none⟩) 0 0 ∧ w'.ownsRow w0.base e sz v 0 []) := by
  obtain ⟨hu, _, hpos, _, ti, zv, hi, hsz, hby, hz, hzs, hzl, hzR⟩ := hsh
  have hso : ∀ w : World, (sizeOf e).run P w = .ok sz w := fun w => by simp [sizeOf, typeInfo, hi, hsz]
  have hzero : ∀ w : World, (zeroValue e).run P w = .ok zv w := fun w => by simp [zeroValue, typeInfo, hi, hz, Result.andThen]
  have hle : m * sz ≤ 100 * 100 := Nat.mul_le_mul hm hz100
  have hn24 : ¬ (2 ^ 24 < m * sz) := by omega
  obtain ⟨cells', k1, k2, k3⟩ := fill_all (size := sz) (ps.toList.map fun p => (p.1, a.eval p.2)) 0 ((Array.range (m * sz)).map (zv.cells[· % zv.cells.size]!)) m (fun j p hp => by
    simp at hp
    obtain ⟨i, x, h1, rfl⟩ := hp
    refine ⟨?_, ?_⟩
    · have := idxOk_spec _ 0 hidx j (i, x) (by simpa using h1)
      simpa using this
    · have hmem : elemOk sz (ev σ x) = true := by
        refine List.all_eq_true.1 hel _ (List.mem_map.2 ⟨(i, x), ?_, rfl⟩)
        exact List.mem_of_getElem? (i := j) (by simpa using h1)
      exact (elemOk_rep hmem (ev_rep hs x)).2.1) (by simpa using hl) (by simp)
  have hB : Below w.heap.size w (w.alloc (.cells cells' e)) := (Below.refl _ _).alloc (Nat.le_refl _) _
  have hpm : (ps.map fun (i, x) => (i, a.eval x)).toList = ps.toList.map fun p => (p.1, a.eval p.2) := by simp
  have hrun : (Instr.buildSlice t m (ps.map fun (i, x) => (i, a.eval x))).run P w = .ok (.slice (some ⟨w.heap.size, 0, none⟩) m m) (w.alloc (.cells cells' e)) := by
    unfold Instr.buildSlice
    simp only [Sem.run_bind, run_underlying hu, Result.andThen, hso]
    have hgt : ¬ m * sz > 2 ^ 24 := hn24
    by_cases h0 : m * sz = 0
    · have e0 : (Array.range (m * sz)).map (fun x => zv.cells[x % zv.cells.size]!) = #[] := by rw [h0]; simp
      have e1 : (Array.range (m * sz)).map (fun x => (#[] : Array Value)[x % (#[] : Array Value).size]!) = #[] := by rw [h0]; simp
      rw [e0] at k1
      simp only [if_neg hgt, if_pos h0, Sem.run_bind, Sem.run_pure, Result.andThen, hpm, e1, k1]
      rfl
    · simp only [if_neg hgt, if_neg h0, Sem.run_bind, Sem.run_pure, Result.andThen, hzero, hpm, k1]
      rfl
  refine ⟨_, _, hrun, hB, fun h0 => ?_, fun h0 => ?_⟩
  · have hlen : (ps.toList.map fun p => ev σ p.2).length = m := by simpa using hl
    have huni : uni sz (ps.toList.map fun p => ev σ p.2) := fun x hx => (by
      have := List.all_eq_true.1 hel x hx
      simp only [elemOk, Bool.and_eq_true, beq_iff_eq] at this
      exact this.1.1.1)
    have hfm := (flatMap_cells hs ps.toList hel).keep hB.size (fun b hb _ => hB.block b hb) (fun _ _ h => h)
    have hR : Rep (w.alloc (.cells cells' e)) (inM M0 ρ σ.h) (.lst (ps.toList.map fun p => ev σ p.2)) (.slice (some ⟨w.heap.size, 0, none⟩) (ps.toList.map fun p => ev σ p.2).length m) := by
      refine .lst _ _ _ sz w.heap.size 0 (fun j => cells'.getD j undef) (by omega) huni (fun _ => ⟨rfl, by simp, fun hm => by have := inM_lt hs.hp hm; omega⟩) (fun j y hy => ?_) (fun j y hy => ?_)
      · obtain ⟨u, hu', _⟩ := hfm.get hy
        have hk := k3 j
        rw [if_pos (by omega)] at hk
        simp only [Nat.zero_mul, Nat.sub_zero] at hk
        rw [hu'] at hk
        have hcell := cell_of_row (w.alloc (.cells cells' e)) w.heap.size (0 + j) cells' e (0, 0) (heap_alloc_new w _)
        rw [hcell]
        simp [hk, Array.getD_eq_getD_getElem?]
      · obtain ⟨u, hu', hrep⟩ := hfm.get hy
        have hk := k3 j
        rw [if_pos (by omega)] at hk
        simp only [Nat.zero_mul, Nat.sub_zero] at hk
        rw [hu'] at hk
        simpa [hk, Array.getD_eq_getD_getElem?] using hrep
    rwa [hlen] at hR
  · subst h0
    have hc0 : cells' = #[] := by
      have : cells'.size = 0 := by simpa using k2
      exact Array.eq_empty_of_size_eq_zero this
    subst hc0
    exact ⟨rfl, by simpa using World.ownsRow_lit (base := w0.base) (e := e) (size := sz) w #[] 0 hs.hp.below.base_le (by simp) (by simp)⟩

/-! ### Calls -/
def Enters (P : Program) (f : FuncId) : Prop := ∃ fn, P.funcs[f]? = some fn ∧ (fn.name == "runtime.NumGoroutine") = false ∧ fn.body.isNone = false

def PureOK (P : Program) (f : FuncId) (sp : List AV → Option AV) : Prop :=
  ∀ (M : Nat → Prop) (args : List AV) (vs : List Value) (w : World) (r : AV), (∀ b, M b → b < w.heap.size) → RepL w M args vs → sp args = some r →
    Calls P f vs.toArray w fun e w' => ∃ v, e = .returned v ∧ Rep w' M r v ∧ Below w.heap.size w w'

def OwnedOK (P : Program) (f : FuncId) (sp : List AV → Option Buf) : Prop :=
  ∀ (M : Nat → Prop) (args : List AV) (vs : List Value) (w : World) (b : Buf), (∀ b, M b → b < w.heap.size) → RepL w M args vs → sp args = some b →
    Calls P f vs.toArray w fun e w' => ∃ v, e = .returned v ∧ Below w.heap.size w w' ∧ (∀ k, v.ownBlock = some k → w.heap.size ≤ k) ∧ OwnB w' (fun k => M k ∨ v.ownBlock = some k) w.heap.size v b

def RepTL (w : World) (M : Nat → Prop) (ρ : Nat → Value) (h : Hp) (xs : List AV) (vs : List Value) : Prop := xs.length = vs.length ∧ ∀ (i : Nat) x v, xs[i]? = some x → vs[i]? = some v → RepT w M ρ h x v

def InplOK (P : Program) (f : FuncId) (sp : List AV → Hp → Option (AV × Hp)) : Prop :=
  ∀ (M0 : Nat → Prop) (w0 : Bs) (ρ : Nat → Value) (h h' : Hp) (args : List AV) (vs : List Value) (w : World) (r : AV), SimH M0 w0 ρ h w → RepTL w (inM M0 ρ h) ρ h args vs → sp args h = some (r, h') →
    Calls P f vs.toArray w fun e w' => ∃ v, e = .returned v ∧ SimH M0 w0 ρ h' w' ∧ Rep w' (inM M0 ρ h') r v ∧ w.heap.size ≤ w'.heap.size ∧ (∀ k, k < w.heap.size → ¬ inM M0 ρ h k → w'.heap[k]? = w.heap[k]?) ∧
      (∀ id, (h id = none ↔ h' id = none) ∧ ∀ b, h id = some b → ∃ b', h' id = some b' ∧ b'.sz = b.sz ∧ b'.xs.length = b.xs.length)

def SpecOK (P : Program) (f : FuncId) : Spec → Prop
  | .none => True
  | .pure sp => Enters P f ∧ PureOK P f sp
  | .owned sp => Enters P f ∧ OwnedOK P f sp
  | .inpl sp => Enters P f ∧ InplOK P f sp

theorem run_call {f : FuncId} (hf : Enters P f) {ty : TypeId} {c : Call} {g : Operand} {vs : List Value} (hc : c.callee = .value g) (hg : a.eval g = .func (.func f) #[] #[]) (hv : c.args.toList.map a.eval = vs) :
    (do let d ← resolve a.eval c ty; invoke d.target d.args : Sem Next).run P w = .ok (.enter f vs.toArray) w := by
  obtain ⟨fn, h1, h2, h3⟩ := hf
  have e : c.args.map a.eval = vs.toArray := by
    rw [← hv]
    apply Array.ext'
    simp
  have h2' : ¬ fn.name = "runtime.NumGoroutine" := by simpa using h2
  simp [resolve, hc, hg, Deferred.ofValue, invoke, callFunc, h1, h2', Result.andThen, e]
  intro hb
  rw [hb] at h3
  cases h3

theorem SimH.erase {h : Hp} (hh : SimH M0 w0 ρ h w) (ids : List Nat) : SimH M0 w0 ρ (eraseAll ids h) w := by
  have get : ∀ {id b}, eraseAll ids h id = some b → h id = some b := fun {id b} hb => by
    unfold eraseAll at hb
    split at hb
    · cases hb
    · exact hb
  have hM : ∀ b, inM M0 ρ (eraseAll ids h) b → inM M0 ρ h b := fun b hb => hb.imp id (fun ⟨i, bf, h1, h2⟩ => ⟨i, bf, get h1, h2⟩)
  refine ⟨hh.below, fun id b k hb hk => hh.off id b k (get hb) hk, fun id b u hb hu => hh.hdr id b u (get hb) hu, hh.m0, fun id b hb => ?_, fun i j bi bj k hij hi hj hki hkj => hh.apart i j bi bj k hij (get hi) (get hj) hki hkj⟩
  obtain ⟨h1, h2, vs, h3, h4⟩ := hh.own id b (get hb)
  exact ⟨h1, h2, vs, h3, h4.keep (Nat.le_refl _) (fun _ _ _ => rfl) (fun b _ hb => hM b hb)⟩

theorem inM_erase {h : Hp} {ids : List Nat} {b : Nat} (hb : inM M0 ρ (eraseAll ids h) b) : inM M0 ρ h b := hb.imp id (fun ⟨i, bf, h1, h2⟩ => ⟨i, bf, by
  unfold eraseAll at h1
  split at h1
  · cases h1
  · exact h1, h2⟩)

/-- What is handed on to be read. -/
theorem frz_rep {h : Hp} (hh : SimH M0 w0 ρ h w) {ids : List Nat} {x : AV} {v : Value} (hx : RepT w (inM M0 ρ h) ρ h x v) (hid : ∀ id, refId x = some id → id ∈ ids) :
    Rep w (inM M0 ρ (eraseAll ids h)) (frz h x) v := by
  have keep : ∀ {y u}, Rep w (inM M0 ρ h) y u → Rep w (inM M0 ρ (eraseAll ids h)) y u := fun hr => hr.keep (Nat.le_refl _) (fun _ _ _ => rfl) (fun b _ hb => inM_erase hb)
  have row : ∀ xs, elems h x = some xs → Rep w (inM M0 ρ (eraseAll ids h)) (.lst xs) v := by
    intro xs he
    obtain ⟨ad, c, sz, b, off, f, rfl, g1, g2, g3, g4, g5, g6, g7, g8⟩ := elems_rep hh hx he
    refine .lst xs ad c sz b off f g1 g2 (fun h0 => ⟨(g3 h0).1, (g3 h0).2, fun hm => ?_⟩) g4 (fun j y hy => keep (g5 j y hy))
    cases hr : refId x with
    | none => exact g7 hr h0 (inM_erase hm)
    | some id =>
      rcases hm with hm | ⟨i, bf, h1, h2⟩
      · have hb := g8 id hr h0
        have hxid : ∃ bf, h id = some bf := by
          cases x <;> simp [refId] at hr
          · subst hr; obtain ⟨bf, h1, _⟩ := hx; exact ⟨bf, h1⟩
          · subst hr; obtain ⟨bf, h1, _⟩ := hx; exact ⟨bf, h1⟩
          · simp [elems] at he
        obtain ⟨bf, hbf⟩ := hxid
        have := ((hh.own id bf hbf).lt b hb).1
        have := hh.m0 b hm
        omega
      · unfold eraseAll at h1
        split at h1
        · cases h1
        · rename_i hni
          exact g6 h0 i (fun e => hni (hid i e)) bf h1 h2
  unfold frz
  split
  · exact row [] rfl
  · rename_i id
    split
    · rename_i b hb
      exact row b.xs (by simp [elems, hb])
    · exact .top _
  · rename_i id off len
    split
    · rename_i b hb
      exact row _ (by simp [elems, hb])
    · exact .top _
  · exact .top _
  · rename_i h1 h2 h3 h4
    exact keep (RepT.rep (by cases x <;> first | rfl | exact absurd rfl (h2 _) | exact absurd rfl (h3 _ _ _) | exact absurd rfl (h4 _ _ _)) hx)

theorem scalar_rep {M M' : Nat → Prop} {w w' : World} {r : AV} {v : Value} (hs : scalarAV r = true) (hr : Rep w M r v) : Rep w' M' r v := by
  have one : ∀ {x u}, (match x with | AV.val _ | .anyb => true | _ => false) = true → Rep w M x u → Rep w' M' x u := by
    intro x u hx hr
    cases hr <;> first | exact .val _ | exact .anyb _ | (simp at hx)
  cases hr with
  | val v => exact .val v
  | anyb b => exact .anyb b
  | tup xs vs hl hc => exact .tup xs vs hl (fun i x v hx hv => one (by
      simp only [scalarAV] at hs
      exact List.all_eq_true.1 hs x (List.mem_of_getElem? hx)) (hc i x v hx hv))
  | agg xs vs hl hc => exact .agg xs vs hl (fun i x v hx hv => one (by
      simp only [scalarAV] at hs
      exact List.all_eq_true.1 hs x (List.mem_of_getElem? hx)) (hc i x v hx hv))
  | top v => simp [scalarAV] at hs
  | lst => simp [scalarAV] at hs
  | pe => simp [scalarAV] at hs

end
end Go.Abs

/- One operation, whole. -/
namespace Go.Abs
open Go Go.RowKit
set_option linter.unusedVariables false
set_option linter.unusedSimpArgs false

section
variable {P : Program} {n : Nat} {M0 : Nat → Prop} {w0 : Bs} {ρ : Nat → Value} {σ σ' : St} {a : Act} {w : World} {o : Oper} {Q : Exit → Act → World → Prop} {Θ : TypeId → Sh} {Γ : FuncId → Spec}

theorem St.eta (σ : St) : (⟨σ.t, σ.h⟩ : St) = σ := rfl
theorem St.set_h (σ : St) (d : Option Nat) (x : AV) : (σ.set d x).h = σ.h := by cases d <;> rfl

theorem repTL_args (hs : Sim n M0 w0 ρ σ a w) : ∀ (xs : List Operand), RepTL w (inM M0 ρ σ.h) ρ σ.h (xs.map (ev σ)) (xs.map a.eval)
  | [] => ⟨rfl, fun i x v h => by simp at h⟩
  | x :: xs => ⟨by simp, fun i y v hy hv => by
      cases i with
      | zero => simp at hy hv; subst hy; subst hv; exact ev_rep hs x
      | succ i => exact (repTL_args hs xs).2 i y v (by simpa using hy) (by simpa using hv)⟩

theorem fnOf_val {x : AV} {f : FuncId} (h : fnOf x = some f) : x = .val (.func (.func f) #[] #[]) := by
  unfold fnOf at h
  split at h
  · split at h
    · rename_i hc
      cases h
      obtain ⟨h1, h2⟩ := hc
      rw [Array.eq_empty_of_size_eq_zero h1, Array.eq_empty_of_size_eq_zero h2]
    · cases h
  · cases h

theorem aCall_sound {f : FuncId} {c : Call} {g : Operand} (hΓ : ∀ f, SpecOK P f (Γ f)) (hd : ∀ t, o.dst = some t → t < n) (hs : Sim n M0 w0 ρ σ a w) (ho : o.op = .call c) (hc : c.callee = .value g)
    (hf : fnOf (ev σ g) = some f) (h : aCall Γ σ o.dst f (c.args.toList.map (ev σ)) = some σ') : o.wp P a w (After n M0 w0 σ') Q := by
  have hg : a.eval g = .func (.func f) #[] #[] := ev_val hs (fnOf_val hf)
  have hSpec := hΓ f
  have enter : Enters P f → ∀ {R : Ending → World → Prop}, Calls P f (c.args.toList.map a.eval).toArray w R →
      (∀ e w', R e w' → ∃ v, e = .returned v ∧ After n M0 w0 σ' (a.put o.dst v) w') → o.wp P a w (After n M0 w0 σ') Q := by
    intro hE R hR hk
    unfold Oper.wp
    have : (execOp a.eval o).run P w = .ok (.enter f (c.args.toList.map a.eval).toArray) w := by
      unfold execOp
      rw [ho]
      exact run_call hE hc hg rfl
    rw [this, Oper.upon_enter]
    exact hR.mono fun e w' he => by
      obtain ⟨v, rfl, hA⟩ := hk e w' he
      exact hA
  unfold aCall at h
  split at h
  · cases h
  · rename_i sp hsp
    rw [hsp] at hSpec
    obtain ⟨hE, hP⟩ := hSpec
    split at h
    · rename_i r hr
      have hids : ∀ (i : Nat) x, (c.args.toList.map (ev σ))[i]? = some x → ∀ id, refId x = some id → id ∈ (c.args.toList.map (ev σ)).filterMap refId := fun i x hx id hid =>
        List.mem_filterMap.2 ⟨x, List.mem_of_getElem? hx, hid⟩
      have hRL : RepL w (inM M0 ρ (eraseAll ((c.args.toList.map (ev σ)).filterMap refId) σ.h)) ((c.args.toList.map (ev σ)).map (frz σ.h)) (c.args.toList.map a.eval) := by
        refine ⟨by simp, fun i y v hy hv => ?_⟩
        rw [List.getElem?_map] at hy
        obtain ⟨x, hx, rfl⟩ := Option.map_eq_some_iff.1 hy
        exact frz_rep hs.hp ((repTL_args hs _).2 i x v hx hv) (hids i x hx)
      have hEr := hs.hp.erase ((c.args.toList.map (ev σ)).filterMap refId)
      refine enter hE (hP _ _ _ _ r (fun b hb => inM_lt hEr hb) hRL hr) (fun e w' ⟨v, he, hv, hB⟩ => ⟨v, he, ?_⟩)
      split at h
      · rename_i hsc
        cases h
        have := hs.put (d := o.dst) (x := r) (v := v) (h' := σ.h) (ρ' := ρ) hd (hs.hp.grow hB) (fun x u hx _ => hx.grow hB) (RepT.of_rep (scalar_rep hsc hv))
        exact ⟨ρ, by rw [← St.set_h σ o.dst r] at this; exact this⟩
      · cases h
        have h1 := hEr.grow hB
        refine ⟨ρ, ?_⟩
        have hs2 : Sim n M0 w0 ρ ⟨fun t => killAll ((c.args.toList.map (ev σ)).filterMap refId) (σ.t t), eraseAll ((c.args.toList.map (ev σ)).filterMap refId) σ.h⟩ a w := by
          refine ⟨hs.size, hs.defers, hEr, fun t => ?_⟩
          have ht := hs.tm t
          show RepT w _ ρ _ (killAll _ (σ.t t)) _
          unfold killAll
          cases hid : refId (σ.t t) with
          | none => exact (RepT.of_rep ((RepT.rep hid ht).keep (Nat.le_refl _) (fun _ _ _ => rfl) (fun b _ hb => inM_erase hb)))
          | some id =>
            simp only
            split
            · exact RepT.of_rep (.top _)
            · rename_i hni
              refine ht.keep (Nat.le_refl _) (fun _ _ _ => rfl) (fun b _ hb => inM_erase hb) (fun i b hi hb => ⟨b, ?_, rfl, rfl, Nat.le_refl _⟩)
              rw [hid] at hi
              cases hi
              unfold eraseAll
              rw [if_neg hni]
              exact hb
        have := hs2.put (d := o.dst) (x := r) (v := v) (h' := eraseAll ((c.args.toList.map (ev σ)).filterMap refId) σ.h) (ρ' := ρ) hd h1 (fun x u hx _ => hx.grow hB) (RepT.of_rep hv)
        have e : ∀ (d : Option Nat) (t : Nat → AV) (h1 h2 : Hp), (St.set ⟨t, h1⟩ d r).t = (St.set ⟨t, h2⟩ d r).t := by intro d t h1 h2; cases d <;> rfl
        rw [e o.dst _ σ.h (eraseAll ((c.args.toList.map (ev σ)).filterMap refId) σ.h)]
        exact this
    · cases h
  · rename_i sp hsp
    rw [hsp] at hSpec
    obtain ⟨hE, hP⟩ := hSpec
    split at h
    · rename_i d b hdd hb
      split at h
      · rename_i hcnd
        obtain ⟨hn, hemp⟩ := hcnd
        cases h
        have hn' : σ.h d = none := by simpa using hn
        have hRL : RepL w (inM M0 ρ σ.h) ((c.args.toList.map (ev σ)).map (frz σ.h)) (c.args.toList.map a.eval) := by
          refine ⟨by simp, fun i y v hy hv => ?_⟩
          rw [List.getElem?_map] at hy
          obtain ⟨x, hx, rfl⟩ := Option.map_eq_some_iff.1 hy
          have := frz_rep (ids := []) hs.hp ((repTL_args hs _).2 i x v hx hv) (fun id hid => by
            have hmem : id ∈ (c.args.toList.map (ev σ)).filterMap refId := List.mem_filterMap.2 ⟨x, List.mem_of_getElem? hx, hid⟩
            rw [List.isEmpty_iff.1 hemp] at hmem
            exact hmem)
          have e : eraseAll [] σ.h = σ.h := by funext i; simp [eraseAll]
          rwa [e] at this
        refine enter hE (hP _ _ _ _ b (fun b hb => inM_lt hs.hp hb) hRL hb) (fun e w' ⟨v, he, hB, hnew, hO⟩ => ⟨v, he, ⟨upd ρ d v, ?_⟩⟩)
        have hM : ∀ k, inM M0 (upd ρ d v) (upd σ.h d (some ⟨b.e, b.sz, b.xs, none⟩)) k → inM M0 ρ σ.h k ∨ v.ownBlock = some k := fun k hk => inM_upd_new hn' hk
        have hO' : OwnB w' (inM M0 (upd ρ d v) (upd σ.h d (some ⟨b.e, b.sz, b.xs, none⟩))) w0.base v ⟨b.e, b.sz, b.xs, none⟩ := by
          obtain ⟨q1, q2, vs, q3, q4⟩ := hO
          refine ⟨q1, q2, vs, ⟨q3.1, ?_⟩, q4.keep (Nat.le_refl _) (fun _ _ _ => rfl) (fun k _ hk => hM k hk)⟩
          rcases q3.2 with q | ⟨g, cap, cur, e1, e2, e3⟩
          · exact .inl q
          · exact .inr ⟨g, cap, cur, e1, Nat.le_trans hs.hp.below.base_le e2, e3⟩
        have := hs.put (d := o.dst) (x := .own d) (v := v) (h' := upd σ.h d (some ⟨b.e, b.sz, b.xs, none⟩)) (ρ' := upd ρ d v) hd (hs.hp.fresh hB hn' rfl hnew hO') (fun x u hx _ => hx.fresh hB hn' hnew) ⟨_, upd_same _ _ _, (upd_same _ _ _).symm⟩
        rw [hdd] at this
        rw [hdd]
        exact this
      · cases h
    · cases h
  · rename_i sp hsp
    rw [hsp] at hSpec
    obtain ⟨hE, hP⟩ := hSpec
    split at h
    · rename_i r h' hr
      split at h
      · rename_i hrid
        cases h
        refine enter hE (hP M0 w0 ρ σ.h h' _ _ w r hs.hp (repTL_args hs _) hr) (fun e w' ⟨v, he, hH, hv, hsz, hblk, hids⟩ => ⟨v, he, ⟨ρ, ?_⟩⟩)
        have hM : ∀ b, b < w.heap.size → inM M0 ρ h' b → inM M0 ρ σ.h b := fun b _ hb => hb.imp id (fun ⟨i, bf, h1, h2⟩ => by
          cases hq : σ.h i with
          | none => have := (hids i).1.1 hq; rw [this] at h1; cases h1
          | some b0 => exact ⟨i, b0, hq, h2⟩)
        exact hs.put (d := o.dst) (x := r) (v := v) (h' := h') (ρ' := ρ) hd hH (fun x u hx _ => hx.keep hsz hblk hM (fun i b hi hb => by
          obtain ⟨b', k1, k2, k3⟩ := (hids i).2 b hb
          exact ⟨b', k1, rfl, k2, by omega⟩)) (RepT.of_rep hv)
      · cases h
    · cases h

end
end Go.Abs

/- Each operation keeps the abstract state. -/
namespace Go.Abs
open Go Go.RowKit
set_option linter.unusedVariables false
set_option linter.unusedSimpArgs false

section
variable {P : Program} {n : Nat} {M0 : Nat → Prop} {w0 : Bs} {ρ : Nat → Value} {σ σ' : St} {a : Act} {w : World} {o : Oper} {Q : Exit → Act → World → Prop} {Θ : TypeId → Sh} {Γ : FuncId → Spec}

theorem bound_is (hs : Sim n M0 w0 ρ σ a w) {x : Option Operand} {d k : Int} (h : bound? (ev σ) d x = some k) : BoundIs (x.map a.eval) d k := by
  cases x with
  | none => cases h; exact .inl ⟨rfl, rfl⟩
  | some x =>
    have h : intOf? (ev σ x) = some k := h
    unfold intOf? at h
    split at h
    · rename_i kd i he
      cases h
      exact .inr ⟨kd, by rw [Option.map_some, ev_val hs he]⟩
    · cases h

theorem same_value {x : AV} {v : Value} (hd : ∀ t, o.dst = some t → t < n) (hs : Sim n M0 w0 ρ σ a w) (hr : (execOp a.eval o).run P w = .ok (.value v) w) (hv : RepT w (inM M0 ρ σ.h) ρ σ.h x v) (he : σ.set o.dst x = σ') :
    o.wp P a w (After n M0 w0 σ') Q := by
  subst he
  exact wp_value hr ⟨ρ, hs.put_same hd hv⟩

theorem aAppend_sound {t u : TypeId} {s x : Operand} {c : Call} {d : Nat} (hΘ : ∀ t, ShOK P t (Θ t)) (hd : d < n) (hdst : o.dst = some d) (hs : Sim n M0 w0 ρ σ a w) (ho : o.op = .call c) (hc : c.callee = .builtin .append)
    (hat : c.argTypes.toList = [t, t]) (har : c.args.toList = [s, x]) (h : aAppend (Θ t) σ d (ev σ s) (ev σ x) = some σ') : o.wp P a w (After n M0 w0 σ') Q := by
  have hrun : ∀ v w', (Builtin.append_ #[t, t] o.type #[a.eval s, a.eval x]).run P w = .ok v w' → (execOp a.eval o).run P w = .ok (.value v) w' := by
    intro v w' hv
    have e1 : c.argTypes = #[t, t] := by apply Array.ext'; simpa using hat
    have e2 : c.args = #[s, x] := by apply Array.ext'; simpa using har
    unfold execOp
    rw [ho]
    simp [resolve, hc, e1, e2, invoke, builtin, hv, Result.andThen]
  unfold aAppend at h
  split at h
  · rename_i e sz by_ z ek ys hΘt hel
    have hsh := hΘ t
    rw [hΘt] at hsh
    have hxr := ev_rep hs x
    split at h
    · rename_i id hsid
      split at h
      · rename_i b hb
        split at h
        · rename_i hcnd
          obtain ⟨he, hsz, hys, hby, h63, _⟩ := hcnd
          cases h
          have hsr := ev_rep hs s
          rw [hsid] at hsr
          obtain ⟨b', hb', hval⟩ := hsr
          rw [hb] at hb'
          cases hb'
          obtain ⟨q1, q2, vs, q3, q4⟩ := hs.hp.own id b hb
          rw [he, hsz] at q3
          obtain ⟨v', w', news, k1, k2, k3, k4, k5⟩ := run_append_gen o.type hs.hp hsh hxr hel hys hby h63 q3
          have huni : uni sz (b.xs ++ ys) := fun y hy => by
            rcases List.mem_append.1 hy with hy | hy
            · rw [← hsz]; exact q1 y hy
            · have := List.all_eq_true.1 hys y hy
              simp only [elemOk, Bool.and_eq_true, beq_iff_eq] at this
              exact this.1.1.1
          obtain ⟨g1, g2⟩ := SimH.append (b' := ⟨e, sz, b.xs ++ ys, none⟩) (v' := v') (vs' := vs ++ news) hs.hp hb k3 k4 rfl huni (by rw [← hsz]; exact q2) (by simpa using k2) (by rw [flat_append]; exact q4.append k5)
          refine wp_value (hrun v' w' (by rw [hval]; exact k1)) ⟨upd ρ id v', ?_⟩
          have hs2 : Sim n M0 w0 ρ ⟨fun t => kill id (σ.t t), σ.h⟩ a w := ⟨hs.size, hs.defers, hs.hp, fun t => by
            show RepT w _ ρ _ (kill id (σ.t t)) _
            unfold kill
            split
            · exact RepT.of_rep (.top _)
            · exact hs.tm t⟩
          have := hs2.put (d := some d) (x := .own id) (v := v') (h' := upd σ.h id (some ⟨e, sz, b.xs ++ ys, none⟩)) (ρ' := upd ρ id v') (fun t ht => by cases ht; exact hd) g1
            (fun x u hx hex => by
              obtain ⟨t, rfl⟩ := hex
              refine g2 _ u ?_ hx
              show refId (kill id (σ.t t)) ≠ some id
              unfold kill
              split
              · simp [refId]
              · assumption) ⟨_, upd_same _ _ _, (upd_same _ _ _).symm⟩
          rw [hdst]
          exact this
        · cases h
      · cases h
    · rename_i hsn
      split at h
      · rename_i hcnd
        obtain ⟨hys, hby, h63, hn⟩ := hcnd
        cases h
        have hn' : σ.h d = none := by simpa using hn
        have hval : a.eval s = .slice none 0 0 := ev_val hs hsn
        obtain ⟨v', w', news, k1, k2, k3, k4, k5⟩ := run_append_gen (v := .slice none 0 0) (m := 0) (vs := []) o.type hs.hp hsh hxr hel hys (by simpa using hby) (by simpa using h63) (World.ownsRow_nil _ _ _ _)
        have hB : Below w.heap.size w w' := below_of_grown k3
        have hnew : ∀ k, v'.ownBlock = some k → w.heap.size ≤ k := fun k hk => by
          rcases k4 with k4 | k4
          · rw [k4] at hk; cases hk
          · rw [k4] at hk; cases hk; exact Nat.le_refl _
        have huni : uni sz ys := fun y hy => (by
          have := List.all_eq_true.1 hys y hy
          simp only [elemOk, Bool.and_eq_true, beq_iff_eq] at this
          exact this.1.1.1)
        have hO : OwnB w' (inM M0 (upd ρ d v') (upd σ.h d (some ⟨e, sz, ys, none⟩))) w0.base v' ⟨e, sz, ys, none⟩ :=
          ⟨huni, hsh.2.2.1, news, by simpa using k2, k5.keep hB.size (fun b hb _ => hB.block b hb) (fun k hk hm => (inM_upd_new hn' hm).resolve_right (fun hv => by have := hnew k hv; omega))⟩
        refine wp_value (hrun v' w' (by rw [hval]; exact k1)) ⟨upd ρ d v', ?_⟩
        have := hs.put (d := some d) (x := .own d) (v := v') (h' := upd σ.h d (some ⟨e, sz, ys, none⟩)) (ρ' := upd ρ d v') (fun t ht => by cases ht; exact hd) (hs.hp.fresh hB hn' rfl hnew hO) (fun x u hx _ => hx.fresh hB hn' hnew) ⟨_, upd_same _ _ _, (upd_same _ _ _).symm⟩
        rw [hdst]
        exact this
      · cases h
    · cases h
  · cases h

theorem intOf_val {x : AV} {k : Int} (h : intOf? x = some k) : ∃ kd, x = .val (.int kd k) := by
  unfold intOf? at h
  split at h
  · cases h; exact ⟨_, rfl⟩
  · cases h

/-- An operation that the abstract state can carry out. -/
theorem astep_sound (hΘ : ∀ t, ShOK P t (Θ t)) (hΓ : ∀ f, SpecOK P f (Γ f)) (hd : ∀ t, o.dst = some t → t < n) (hs : Sim n M0 w0 ρ σ a w) (h : astep Θ Γ o σ = some σ') : o.wp P a w (After n M0 w0 σ') Q := by
  unfold astep at h
  split at h
  · rename_i x ho
    cases h
    exact same_value hd hs (by unfold execOp; rw [ho]; rfl) (ev_rep hs x) rfl
  · rename_i x ho
    cases h
    exact same_value hd hs (by unfold execOp; rw [ho]; rfl) (ev_rep hs x) rfl
  · rename_i c x y ho
    split at h
    · rename_i b hc
      cases h
      have hcv := ev_val hs hc
      refine same_value (v := if b then a.eval x else a.eval y) hd hs (by unfold execOp; rw [ho]; simp [hcv, asBool, Result.andThen]) ?_ rfl
      cases b
      · exact ev_rep hs y
      · exact ev_rep hs x
    · cases h
  · rename_i op t x y yt ho
    obtain ⟨r, hr, rfl⟩ := Option.map_eq_some_iff.1 h
    obtain ⟨v, hv, hrun⟩ := run_aBin (P := P) (x := x) (y := y) (yt := yt) (hΘ t) (ev_rep hs x) (ev_rep hs y) hr
    refine same_value hd hs ?_ hv rfl
    unfold execOp
    rw [ho]
    simp only [Sem.run_bind, hrun, Result.andThen, Sem.run_pure]
  · rename_i op t x ho
    obtain ⟨r, hr, rfl⟩ := Option.map_eq_some_iff.1 h
    obtain ⟨v, hv, hrun⟩ := run_aUn (P := P) (ev_rep hs x) hr
    refine same_value hd hs ?_ hv rfl
    unfold execOp
    rw [ho]
    simp only [Sem.run_bind, hrun, Result.andThen, Sem.run_pure]
  · rename_i s t x ho
    obtain ⟨r, hr, rfl⟩ := Option.map_eq_some_iff.1 h
    obtain ⟨v, hv, hrun⟩ := run_aConv (P := P) hs.hp (hΘ s) (hΘ t) (ev_rep hs x) hr
    refine same_value hd hs ?_ hv rfl
    unfold execOp
    rw [ho]
    simp only [Sem.run_bind, hrun, Result.andThen, Sem.run_pure]
  · rename_i x i ho
    split at h
    · rename_i xs hx
      obtain ⟨r, hr, rfl⟩ := Option.map_eq_some_iff.1 h
      have hR := ev_rep hs x
      rw [hx] at hR
      have hR : Rep w (inM M0 ρ σ.h) (.tup xs) (a.eval x) := hR
      generalize hav : a.eval x = av at hR
      cases hR with
      | tup _ vs hl hc =>
        have hi : i < vs.size := by rw [← hl]; exact (List.getElem?_eq_some_iff.1 hr).1
        refine same_value hd hs (v := vs[i]) ?_ (RepT.of_rep (hc i r _ hr (by simp [hi]))) rfl
        unfold execOp
        rw [ho]
        simp [hav, Instr.extract, hi, Result.andThen]
    · cases h
  · rename_i t x i ho
    split at h
    · rename_i e sz by_ z ek k hΘt hi
      obtain ⟨r, hr, rfl⟩ := Option.map_eq_some_iff.1 h
      obtain ⟨kd, hiv⟩ := intOf_val hi
      have hsh := hΘ t
      rw [hΘt] at hsh
      obtain ⟨v, hv, hrun⟩ := run_aIndex (P := P) (k := kd) (i := k) hs.hp hsh (ev_rep hs x) hr
      refine same_value hd hs ?_ hv rfl
      unfold execOp
      rw [ho]
      simp only [ev_val hs hiv, Sem.run_bind, hrun, Result.andThen, Sem.run_pure]
    · cases h
  · rename_i t x i ho
    split at h
    · rename_i s k hΘt hx hi
      split at h
      · rename_i hc
        cases h
        obtain ⟨kd, hiv⟩ := intOf_val hi
        have hsh := hΘ t
        rw [hΘt] at hsh
        refine same_value hd hs (v := .int .u8 (s[k.toNat]'hc.2).toNat) ?_ (RepT.of_rep (.val _)) rfl
        unfold execOp
        rw [ho]
        simp [ev_val hs hiv, ev_val hs hx, Instr.index, asIntOf, run_underlying (show P.underlying t = some .string from hsh.1), Result.andThen, hc.1, hc.2]
      · cases h
    · cases h
  · rename_i t p ho
    obtain ⟨r, hr, rfl⟩ := Option.map_eq_some_iff.1 h
    obtain ⟨v, hv, hrun⟩ := run_aLoad (P := P) hs.hp (hΘ t) (ev_rep hs p) hr
    refine same_value hd hs ?_ (RepT.of_rep hv) rfl
    unfold execOp
    rw [ho]
    simp only [Sem.run_bind, hrun, Result.andThen, Sem.run_pure]
  · rename_i t p x ho
    obtain ⟨h', hr, rfl⟩ := Option.map_eq_some_iff.1 h
    obtain ⟨w', hrun, hH, hk⟩ := run_aStore (P := P) hs.hp (hΘ t) (ev_rep hs p) (ev_rep hs x) hr
    refine wp_skip' (w' := w') ?_ ⟨ρ, hs.put hd hH (fun x u hx _ => hk x u hx) (RepT.of_rep (.top _))⟩
    unfold execOp
    rw [ho]
    simp only [Sem.run_bind, hrun, Result.andThen, Sem.run_pure]
  · rename_i t x lo hi mx ho
    split at h
    · rename_i k hk
      split at h
      · rename_i l m hl hm
        split at h
        · rename_i hcm
          obtain ⟨hmx, hok⟩ := hcm
          obtain ⟨r, hr, rfl⟩ := Option.map_eq_some_iff.1 h
          have hm2 : mx.map a.eval = none ∨ (hi.map a.eval ≠ none ∧ ∃ kd, mx.map a.eval = some (.int kd m)) := by
            cases mx with
            | none => exact .inl rfl
            | some y =>
              refine .inr ⟨?_, ?_⟩
              · cases hi with
                | none => simp [maxOk] at hok
                | some z => simp
              · have hmx : intOf? (ev σ y) = some m := hmx
                obtain ⟨kd, hy⟩ := intOf_val hmx
                exact ⟨kd, by rw [Option.map_some, ev_val hs hy]⟩
          have hstr : mx.map a.eval = none ∨ Θ t ≠ .str := by
            cases mx with
            | none => exact .inl rfl
            | some y =>
              refine .inr (fun e => ?_)
              rw [e] at hok
              simp [maxOk] at hok
          obtain ⟨v, hv, hrun⟩ := run_aSlice (P := P) hs.hp (hΘ t) (ev_rep hs x) hk (bound_is hs hl) (bound_is hs hm) hm2 hstr hr
          refine same_value hd hs ?_ hv rfl
          unfold execOp
          rw [ho]
          simp only [Sem.run_bind, hrun, Result.andThen, Sem.run_pure]
        · cases h
      · cases h
    · cases h
  · rename_i t x y ho
    split at h
    · rename_i e sz by_ z ek kl i kc j d hΘt hx hy hdst
      split at h
      · rename_i hcnd
        obtain ⟨rfl, h0, hb, h63, hn⟩ := hcnd
        cases h
        have hsh := hΘ t
        rw [hΘt] at hsh
        have hn' : σ.h d = none := by simpa using hn
        obtain ⟨v, w', hrun, hH, hB, hnew⟩ := run_aMake (P := P) (kl := kl) (kc := kc) hs.hp hsh h0 hb h63 hn'
        refine wp_value (v := v) (w' := w') ?_ ⟨upd ρ d v, ?_⟩
        · unfold execOp
          rw [ho]
          simp only [ev_val hs hx, ev_val hs hy, Sem.run_bind, hrun, Result.andThen, Sem.run_pure]
        · have := hs.put (d := some d) (x := .own d) (v := v) (ρ' := upd ρ d v) (fun t ht => by cases ht; exact hd d hdst) hH (fun x u hx _ => hx.fresh hB hn' hnew) ⟨_, upd_same _ _ _, (upd_same _ _ _).symm⟩
          rw [hdst]
          exact this
      · cases h
    · cases h
  · rename_i t m ps ho
    split at h
    · rename_i e sz by_ z ek d hΘt hdst
      have hsh := hΘ t
      rw [hΘt] at hsh
      split at h
      · rename_i hm0
        split at h
        · rename_i hcnd
          obtain ⟨hps, hz100, hn⟩ := hcnd
          cases h
          subst hm0
          have hn' : σ.h d = none := by simpa using hn
          have hpe : ps = #[] := Array.eq_empty_of_size_eq_zero hps
          subst hpe
          obtain ⟨v, w', hrun, hB, _, hv0⟩ := run_aBuild (P := P) (m := 0) (ps := #[]) hs hsh rfl rfl (by omega) hz100 rfl
          obtain ⟨hv, hown⟩ := hv0 rfl
          have hnew : ∀ k, v.ownBlock = some k → w.heap.size ≤ k := fun k hk => by
            rw [hv] at hk
            simp [Value.ownBlock] at hk; omega
          have hO : OwnB w' (inM M0 (upd ρ d v) (upd σ.h d (some ⟨e, sz, [], none⟩))) w0.base v ⟨e, sz, [], none⟩ := ⟨fun x hx => by simp at hx, hsh.2.2.1, [], by simpa using hown, .nil⟩
          refine wp_value (v := v) (w' := w') ?_ ⟨upd ρ d v, ?_⟩
          · unfold execOp
            rw [ho]
            simp only [Sem.run_bind, hrun, Result.andThen, Sem.run_pure]
          · have := hs.put (d := some d) (x := .own d) (v := v) (ρ' := upd ρ d v) (fun t ht => by cases ht; exact hd d hdst) (hs.hp.fresh hB hn' rfl hnew hO) (fun x u hx _ => hx.fresh hB hn' hnew) ⟨_, upd_same _ _ _, (upd_same _ _ _).symm⟩
            rw [hdst]
            exact this
        · cases h
      · rename_i hm0
        split at h
        · rename_i hcnd
          obtain ⟨hidx, hps, hm, hz100, hel⟩ := hcnd
          cases h
          obtain ⟨v, w', hrun, hB, hR, _⟩ := run_aBuild (P := P) hs hsh hidx hps hm hz100 hel
          refine wp_value (v := v) (w' := w') ?_ ⟨ρ, ?_⟩
          · unfold execOp
            rw [ho]
            simp only [Sem.run_bind, hrun, Result.andThen, Sem.run_pure]
          · have := hs.put (d := o.dst) (x := .lst (ps.toList.map fun p => ev σ p.2)) (v := v) (h' := σ.h) (ρ' := ρ) hd (hs.hp.grow hB) (fun x u hx _ => hx.grow hB) (RepT.of_rep (hR (by omega)))
            rw [← St.set_h σ o.dst (.lst (ps.toList.map fun p => ev σ p.2))] at this
            exact this
        · cases h
    · cases h
  · rename_i c ho
    split at h
    · rename_i hcal
      split at h
      · rename_i t x hat har
        have e1 : c.argTypes = #[t] := by apply Array.ext'; simpa using hat
        have e2 : c.args = #[x] := by apply Array.ext'; simpa using har
        have run : ∀ v, (Builtin.len_ #[t] o.type #[a.eval x]).run P w = .ok v w → (execOp a.eval o).run P w = .ok (.value v) w := fun v hv => by
          unfold execOp
          rw [ho]
          simp [resolve, hcal, e1, e2, invoke, builtin, hv, Result.andThen]
        split at h
        · rename_i e sz by_ z ek hΘt
          have hsh := hΘ t
          rw [hΘt] at hsh
          split at h
          · cases h
          · rename_i hns
            obtain ⟨k, hk, rfl⟩ := Option.map_eq_some_iff.1 h
            rcases lenAV_len hs.hp (ev_rep hs x) hk with ⟨ad, l, c', hv, hl, _⟩ | ⟨s, hxs, _⟩
            · refine same_value (v := .int .i64 k) hd hs (run _ ?_) (RepT.of_rep (.val _)) rfl
              simp [hv, Builtin.len_, run_underlying hsh.1, Result.andThen, goInt, hl]
            · exact absurd hxs (hns s)
        · rename_i hΘt
          have hsh := hΘ t
          rw [hΘt] at hsh
          split at h
          · rename_i s hxs
            cases h
            refine same_value (v := .int .i64 s.size) hd hs (run _ ?_) (RepT.of_rep (.val _)) rfl
            simp [ev_val hs hxs, Builtin.len_, run_underlying (show P.underlying t = some .string from hsh.1), Result.andThen, goInt]
          · cases h
        · cases h
      · cases h
    · rename_i hcal
      split at h
      · rename_i t u s x d hat har hdst
        split at h
        · rename_i htu
          subst htu
          exact aAppend_sound (u := t) hΘ (hd d hdst) hdst hs ho hcal hat har h
        · cases h
      · cases h
    · rename_i hcal
      split at h
      · rename_i x y har
        have e2 : c.args = #[x, y] := by apply Array.ext'; simpa using har
        split at h
        · rename_i k i k' j hx hy
          cases h
          refine same_value (v := .int k (if j > i then j else i)) hd hs ?_ (RepT.of_rep (.val _)) rfl
          unfold execOp
          rw [ho]
          simp [resolve, hcal, e2, invoke, builtin, Builtin.max_, Builtin.max2, ev_val hs hx, ev_val hs hy, Result.andThen]
        · cases h
      · cases h
    · rename_i f hcal
      split at h
      · rename_i f' hf
        exact aCall_sound hΓ hd hs ho hcal hf h
      · cases h
    · cases h
  · cases h

end
end Go.Abs

/- Code on the abstract state. -/
namespace Go.Abs
open Go Go.RowKit
set_option linter.unusedVariables false
set_option linter.unusedSimpArgs false

section
variable {P : Program} {Θ : TypeId → Sh} {Γ : FuncId → Spec} {n : Nat} {M0 : Nat → Prop} {w0 : Bs}

def Post (n : Nat) (M0 : Nat → Prop) (w0 : Bs) (N : St → Prop) (X : Nat → St → Prop) (R : St → Prop) : Exit → Act → World → Prop
  | .normal, a, w => ∃ ρ σ, Sim n M0 w0 ρ σ a w ∧ N σ
  | .exit i, a, w => ∃ ρ σ, Sim n M0 w0 ρ σ a w ∧ X i σ
  | .ret, a, w => ∃ ρ σ, Sim n M0 w0 ρ σ a w ∧ R σ
  | _, _, _ => False

/-- From this abstract state the code ends as it is told. -/
def AWP (P : Program) (n : Nat) (M0 : Nat → Prop) (w0 : Bs) (c : Code) (N : St → Prop) (X : Nat → St → Prop) (R : St → Prop) (σ : St) : Prop :=
  ∀ ρ a w, Sim n M0 w0 ρ σ a w → c.wp P (Post n M0 w0 N X R) a w

variable {N N' : St → Prop} {X X' : Nat → St → Prop} {R R' : St → Prop} {σ σ' : St}

theorem AWP.mono {c : Code} (h : AWP P n M0 w0 c N X R σ) (hN : ∀ σ, N σ → N' σ) (hX : ∀ i σ, X i σ → X' i σ) (hR : ∀ σ, R σ → R' σ) : AWP P n M0 w0 c N' X' R' σ := fun ρ a w hs =>
  wp_mono (h ρ a w hs) fun e a w q => by
    cases e with
    | normal => obtain ⟨ρ, σ, h1, h2⟩ := q; exact ⟨ρ, σ, h1, hN _ h2⟩
    | exit i => obtain ⟨ρ, σ, h1, h2⟩ := q; exact ⟨ρ, σ, h1, hX _ _ h2⟩
    | ret => obtain ⟨ρ, σ, h1, h2⟩ := q; exact ⟨ρ, σ, h1, hR _ h2⟩
    | goto l => exact q
    | panic c => exact q
    | outgrown => exact q

theorem awp_seq {x y : Code} (h : AWP P n M0 w0 x (fun σ => AWP P n M0 w0 y N X R σ) X R σ) : AWP P n M0 w0 (.seq x y) N X R σ := fun ρ a w hs =>
  wp_seq (wp_mono (h ρ a w hs) fun e a w q => by
    cases e with
    | normal => obtain ⟨ρ, σ, h1, h2⟩ := q; exact h2 ρ a w h1
    | exit i => exact q
    | ret => exact q
    | goto l => exact q
    | panic c => exact q
    | outgrown => exact q)
theorem awp_skip (h : N σ) : AWP P n M0 w0 .skip N X R σ := fun ρ a w hs => wp_skip ⟨ρ, σ, hs, h⟩
theorem awp_ret (h : R σ) : AWP P n M0 w0 .ret N X R σ := fun ρ a w hs => wp_ret ⟨ρ, σ, hs, h⟩
theorem awp_exit {i : Nat} (h : X i σ) : AWP P n M0 w0 (.exit i) N X R σ := fun ρ a w hs => wp_exit ⟨ρ, σ, hs, h⟩
theorem awp_block {i : Nat} {c : Code} (h : AWP P n M0 w0 c N (fun j σ => if j = i then N σ else X j σ) R σ) : AWP P n M0 w0 (.block i c) N X R σ := fun ρ a w hs =>
  wp_block (wp_mono (h ρ a w hs) fun e a w q => by
    cases e with
    | normal => exact q
    | exit j =>
      obtain ⟨ρ, σ, h1, h2⟩ := q
      simp only [Exit.inBlock]
      split
      · rename_i hj
        simp only [hj, if_true] at h2
        exact ⟨ρ, σ, h1, h2⟩
      · rename_i hj
        simp only [hj, if_false] at h2
        exact ⟨ρ, σ, h1, h2⟩
    | ret => exact q
    | goto l => exact q
    | panic c => exact q
    | outgrown => exact q)
theorem awp_cond {c : Operand} {x y : Code} {b : Bool} (hc : ev σ c = .val (.bool b)) (ht : b = true → AWP P n M0 w0 x N X R σ) (hf : b = false → AWP P n M0 w0 y N X R σ) : AWP P n M0 w0 (.cond c x y) N X R σ := fun ρ a w hs =>
  wp_cond_split (ev_val hs hc) (fun h => ht h ρ a w hs) (fun h => hf h ρ a w hs)
theorem awp_cond_any {c : Operand} {x y : Code} (hc : ev σ c = .anyb) (ht : AWP P n M0 w0 x N X R σ) (hf : AWP P n M0 w0 y N X R σ) : AWP P n M0 w0 (.cond c x y) N X R σ := fun ρ a w hs => by
  have hr := ev_rep hs c
  rw [hc] at hr
  have hr : Rep w _ .anyb (a.eval c) := hr
  generalize hv : a.eval c = v at hr
  cases hr with
  | anyb b => exact wp_cond_split hv (fun _ => ht ρ a w hs) (fun _ => hf ρ a w hs)
theorem awp_label {l : Nat} (h : N σ) : AWP P n M0 w0 (.label l) N X R σ := fun ρ a w hs b k cs => ⟨.normal, a, w, ⟨ρ, σ, hs, h⟩, .one step_label⟩

theorem awp_loop {c : Code} (I : St → Prop) (μ : St → Nat) (h0 : I σ) (hr : ∀ σ, I σ → AWP P n M0 w0 c (fun σ' => I σ' ∧ μ σ' < μ σ) X R σ) : AWP P n M0 w0 (.loop c) N X R σ := by
  intro ρ a w hs
  -- the measure of an abstract state, by the relation
  have key : ∀ (m : Nat) ρ σ a w, Sim n M0 w0 ρ σ a w → I σ → μ σ = m → ∀ (b : Frame) (k : List Item) (cs : List Frame),
      ∃ e a' w', Post n M0 w0 N X R e a' w' ∧ Arrives P (lone (b.at a (.code c :: .inLoop c :: k)) cs w) b k cs e a' w' := by
    intro m
    induction m using Nat.strongRecOn with
    | _ m ih =>
      intro ρ σ a w hs hI hm b k cs
      obtain ⟨e, a1, w1, hq, harr⟩ := hr σ hI ρ a w hs b (.inLoop c :: k) cs
      cases e with
      | normal =>
        obtain ⟨ρ1, σ1, h1, h2, h3⟩ := hq
        obtain ⟨e2, a2, w2, hq2, harr2⟩ := ih (μ σ1) (hm ▸ h3) ρ1 σ1 a1 w1 h1 h2 rfl b k cs
        exact ⟨e2, a2, w2, hq2, .of_steps (Steps.trans harr (.one step_inLoop)) harr2⟩
      | exit id => exact ⟨.exit id, a1, w1, (show Post n M0 w0 N X R (.exit id) a1 w1 from hq), .pass (x := .inLoop c) rfl (fun _ _ => .inl (by simp)) harr⟩
      | ret => exact ⟨.ret, a1, w1, (show Post n M0 w0 N X R .ret a1 w1 from hq), .pass (x := .inLoop c) rfl (fun _ _ => .inl (by simp)) harr⟩
      | goto l => exact hq.elim
      | panic ch => exact hq.elim
      | outgrown => exact hq.elim
  intro b k cs
  obtain ⟨e, a', w', hq, harr⟩ := key _ ρ σ a w hs h0 rfl b k cs
  exact ⟨e, a', w', hq, .of_steps (.one step_loop) harr⟩

/-! ### A region in the order of its text -/
def dstsOk (n : Nat) (ops : List Oper) : Bool := ops.all fun o => match o.dst with | some d => decide (d < n) | none => true

def guardTmp (ops : Array Oper) (g : Nat) : Option Nat := (ops[g]?).bind (·.dst)

def arun (Θ : TypeId → Sh) (Γ : FuncId → Spec) (all : Array Oper) : List Oper → St → (St → Prop) → Prop
  | [], σ, K => K σ
  | o :: rest, σ, K => match o.guard with
    | none => ∃ σ', astep Θ Γ o σ = some σ' ∧ arun Θ Γ all rest σ' K
    | some (g, want) => match guardTmp all g with
      | some d => (∃ b, σ.t d = .val (.bool b) ∧ (b = want → ∃ σ', astep Θ Γ o σ = some σ' ∧ arun Θ Γ all rest σ' K) ∧ (b ≠ want → arun Θ Γ all rest (σ.set o.dst (.val undef)) K)) ∨
          (σ.t d = .val undef ∧ arun Θ Γ all rest (σ.set o.dst (.val undef)) K)
      | none => False

theorem yielded_of {ρ : Nat → Value} {a : Act} {w : World} {ops : Array Oper} {g d : Nat} {b : Bool} (hs : Sim n M0 w0 ρ σ a w) (hg : guardTmp ops g = some d) (hb : σ.t d = .val (.bool b)) : yielded ops a.tmps g = some b := by
  have h1 := hs.tm d
  rw [hb] at h1
  have h2 := h1.val_eq
  unfold yielded
  unfold guardTmp at hg
  rw [hg]
  have h3 : a.tmps[d]? = some (.bool b) := by
    cases hq : a.tmps[d]? with
    | none => simp [hq, undef] at h2
    | some u => simp [hq] at h2; rw [h2]
  simp [h3]

theorem yielded_undef {ρ : Nat → Value} {a : Act} {w : World} {ops : Array Oper} {g d : Nat} (hs : Sim n M0 w0 ρ σ a w) (hg : guardTmp ops g = some d) (hb : σ.t d = .val undef) : yielded ops a.tmps g = none := by
  have h1 := hs.tm d
  rw [hb] at h1
  have h2 := h1.val_eq
  unfold yielded
  unfold guardTmp at hg
  rw [hg]
  cases hq : a.tmps[d]? with
  | none => simp [hq]
  | some u => simp [hq] at h2; subst h2; simp [hq, undef]

theorem arun_sound (hΘ : ∀ t, ShOK P t (Θ t)) (hΓ : ∀ f, SpecOK P f (Γ f)) {ops : Array Oper} {K : St → Prop} : ∀ (l : List Oper) (σ : St) (ρ : Nat → Value) (a : Act) (w : World), dstsOk n l = true → Sim n M0 w0 ρ σ a w →
    arun Θ Γ ops l σ K → wpList P ops (Post n M0 w0 K X R) l a w
  | [], σ, ρ, a, w, _, hs, h => wpList_nil ⟨ρ, σ, hs, h⟩
  | o :: l, σ, ρ, a, w, hd, hs, h => by
    simp only [dstsOk, List.all_cons, Bool.and_eq_true] at hd
    have hdo : ∀ t, o.dst = some t → t < n := fun t ht => by
      have := hd.1
      rw [ht] at this
      simpa using this
    have step : ∀ σ', astep Θ Γ o σ = some σ' → arun Θ Γ ops l σ' K → o.wp P a w (wpList P ops (Post n M0 w0 K X R) l) (Post n M0 w0 K X R) := fun σ' h1 h2 =>
      Oper.wp_mono (fun a' w' ⟨ρ', hs'⟩ => arun_sound hΘ hΓ l σ' ρ' a' w' hd.2 hs' h2) (astep_sound hΘ hΓ hdo hs h1)
    unfold arun at h
    unfold wpList
    cases hg : o.guard with
    | none =>
      rw [hg] at h
      obtain ⟨σ', h1, h2⟩ := h
      rw [if_pos (by simp [Region.wanted, hg])]
      exact .inl (step σ' h1 h2)
    | some gw =>
      obtain ⟨g, want⟩ := gw
      rw [hg] at h
      simp only at h
      cases hgt : guardTmp ops g with
      | none => rw [hgt] at h; exact h.elim
      | some d =>
        rw [hgt] at h
        rcases h with ⟨b, hb, ht, hf⟩ | ⟨hu, hf⟩
        case inr =>
          have hwn : Region.wanted o (yielded ops a.tmps) = false := by simp [Region.wanted, hg, yielded_undef hs hgt hu]
          rw [if_neg (by rw [hwn]; simp)]
          exact arun_sound hΘ hΓ l _ ρ _ w hd.2 (hs.put_same hdo (RepT.of_rep (.val _))) hf
        have hy := yielded_of hs hgt hb
        have hwn : Region.wanted o (yielded ops a.tmps) = (b == want) := by simp [Region.wanted, hg, hy]
        by_cases hbw : b = want
        · rw [if_pos (by rw [hwn]; simp [hbw])]
          obtain ⟨σ', h1, h2⟩ := ht hbw
          exact .inl (step σ' h1 h2)
        · rw [if_neg (by rw [hwn]; simp [hbw])]
          exact arun_sound hΘ hΓ l _ ρ _ w hd.2 (hs.put_same hdo (RepT.of_rep (.val _))) (hf hbw)

/-! ### What is forgotten -/
def slook : List (Nat × AV) → Nat → AV
  | [], _ => .top
  | (k, v) :: r, j => if j = k then v else slook r j
def pickT (live : List Nat) (t : Nat → AV) : List (Nat × AV) := live.map fun s => (s, t s)

theorem slook_or : ∀ (L : List (Nat × AV)) (t : Nat), slook L t = .top ∨ ∃ v, (t, v) ∈ L ∧ slook L t = v
  | [], t => .inl rfl
  | (k, v) :: r, t => by
    by_cases h : t = k
    · subst h; exact .inr ⟨v, by simp, by simp [slook]⟩
    · rcases slook_or r t with h1 | ⟨u, h1, h2⟩
      · exact .inl (by simp [slook, h, h1])
      · exact .inr ⟨u, by simp [h1], by simp [slook, h, h2]⟩

theorem Sim.forget {ρ : Nat → Value} {a : Act} {w : World} {L : List (Nat × AV)} (hs : Sim n M0 w0 ρ σ a w) (hL : ∀ p ∈ L, σ.t p.1 = p.2) : Sim n M0 w0 ρ ⟨slook L, σ.h⟩ a w :=
  ⟨hs.size, hs.defers, hs.hp, fun t => by
    rcases slook_or L t with h | ⟨v, h1, h2⟩
    · show RepT w _ ρ _ (slook L t) _
      rw [h]; exact RepT.of_rep (.top _)
    · show RepT w _ ρ _ (slook L t) _
      have h3 : σ.t t = v := hL _ h1
      rw [h2, ← h3]
      exact hs.tm t⟩

theorem awp_region {id : Nat} {l : List Oper} (live : List Nat) (hΘ : ∀ t, ShOK P t (Θ t)) (hΓ : ∀ f, SpecOK P f (Γ f)) (hd : dstsOk n l = true)
    (h : arun Θ Γ l.toArray l σ fun σ' => N ⟨slook (pickT live σ'.t), σ'.h⟩) : AWP P n M0 w0 (.region id l.toArray false) N X R σ := fun ρ a w hs =>
  wp_mono (wp_region_lit (arun_sound (X := X) (R := R) hΘ hΓ l σ ρ a w hd hs h)) fun e a w q => by
    cases e with
    | normal =>
      obtain ⟨ρ, σ, h1, h2⟩ := q
      exact ⟨ρ, _, h1.forget (fun p hp => by
        obtain ⟨s, _, rfl⟩ := List.mem_map.1 hp
        rfl), h2⟩
    | _ => exact q

end
end Go.Abs

/- Functions and loops on the abstract state. -/
namespace Go.Abs
open Go Go.RowKit
set_option linter.unusedVariables false
set_option linter.unusedSimpArgs false

section
variable {P : Program} {Θ : TypeId → Sh} {Γ : FuncId → Spec} {n : Nat} {M0 : Nat → Prop} {w0 : Bs}

def hlook : List (Nat × Buf) → Hp
  | [], _ => none
  | (k, v) :: r, j => if j = k then some v else hlook r j
def updL : List (Nat × Buf) → Nat → Buf → List (Nat × Buf)
  | [], i, b => [(i, b)]
  | (j, c) :: r, i, b => if i = j then (i, b) :: r else (j, c) :: updL r i b
theorem upd_hlook (L : List (Nat × Buf)) (i : Nat) (b : Buf) : upd (hlook L) i (some b) = hlook (updL L i b) := by
  induction L with
  | nil => funext j; simp [upd, hlook, updL]
  | cons p r ih =>
    obtain ⟨k, c⟩ := p
    funext j
    have := congrFun ih j
    simp only [upd] at this
    simp only [upd, hlook, updL]
    by_cases hik : i = k
    · subst hik
      simp only [if_true, hlook]
      split <;> rfl
    · rw [if_neg hik]
      simp only [hlook]
      by_cases hji : j = i
      · subst hji
        rw [if_pos rfl, if_neg hik]
        simpa using this
      · rw [if_neg hji]
        rw [if_neg hji] at this
        rw [this]
theorem erase_hlook (ids : List Nat) (L : List (Nat × Buf)) : eraseAll ids (hlook L) = hlook (L.filter fun p => decide (p.1 ∉ ids)) := by
  induction L with
  | nil => funext j; simp [eraseAll, hlook]
  | cons p r ih =>
    obtain ⟨k, c⟩ := p
    funext j
    have := congrFun ih j
    simp only [eraseAll] at this
    by_cases hk : k ∈ ids
    · have e : (((k, c) :: r).filter fun p => decide (p.1 ∉ ids)) = r.filter fun p => decide (p.1 ∉ ids) := by
        rw [List.filter_cons, if_neg (by simp [hk])]
      rw [e, ← this]
      simp only [eraseAll, hlook]
      by_cases hj : j ∈ ids
      · rw [if_pos hj, if_pos hj]
      · rw [if_neg hj, if_neg hj, if_neg (fun (e : j = k) => hj (by rw [e]; exact hk))]
    · have e : (((k, c) :: r).filter fun p => decide (p.1 ∉ ids)) = (k, c) :: r.filter fun p => decide (p.1 ∉ ids) := by
        rw [List.filter_cons, if_pos (by simp [hk])]
      rw [e]
      simp only [eraseAll, hlook]
      by_cases hjk : j = k
      · subst hjk; rw [if_neg hk, if_pos rfl, if_pos rfl]
      · rw [if_neg hjk, if_neg hjk, this]

/-- The state that a list of slots and a list of buffers tell. -/
def st (L : List (Nat × AV)) (H : List (Nat × Buf)) : St := ⟨slook L, hlook H⟩
def agree (L : List (Nat × AV)) (t : Nat → AV) : Prop := ∀ p ∈ L, t p.1 = p.2
theorem agree_nil (t : Nat → AV) : agree [] t := fun p hp => by cases hp
theorem agree_cons {k : Nat} {v : AV} {L : List (Nat × AV)} {t : Nat → AV} : agree ((k, v) :: L) t ↔ t k = v ∧ agree L t := by simp [agree]

variable {N N' : St → Prop} {X X' : Nat → St → Prop} {R R' : St → Prop} {σ σ' : St}

theorem awp_seq_k {x y : Code} (h : ∀ K : St → Prop, (∀ σ, AWP P n M0 w0 y N X R σ → K σ) → AWP P n M0 w0 x K X R σ) : AWP P n M0 w0 (.seq x y) N X R σ := awp_seq (h _ fun _ h => h)

theorem awp_forget {c : Code} (L : List (Nat × AV)) (hL : agree L σ.t) (h : AWP P n M0 w0 c N X R ⟨slook L, σ.h⟩) : AWP P n M0 w0 c N X R σ := fun ρ a w hs => h ρ a w (hs.forget hL)

/-- A loop: `I` tells the state at its head by a number and whatever else (`ι`). -/
theorem awp_loop_st {ι : Type} {c : Code} (L : ι → List (Nat × AV)) (H : ι → List (Nat × Buf)) (μ : ι → Nat) (Inv : ι → Prop) (i0 : ι) (hI : Inv i0) (hL : agree (L i0) σ.t) (hH : σ.h = hlook (H i0))
    (hr : ∀ i, Inv i → AWP P n M0 w0 c (fun σ' => ∃ j, Inv j ∧ agree (L j) σ'.t ∧ σ'.h = hlook (H j) ∧ μ j < μ i) X R (st (L i) (H i))) : AWP P n M0 w0 (.loop c) N X R σ := by
  intro ρ a w hs b k cs
  have key : ∀ (m : Nat) (i : ι), Inv i → μ i = m → ∀ (ρ : Nat → Value) (a : Act) (w : World), Sim n M0 w0 ρ (st (L i) (H i)) a w → ∀ (b : Frame) (k : List Item) (cs : List Frame),
      ∃ e a' w', Post n M0 w0 N X R e a' w' ∧ Arrives P (lone (b.at a (.code c :: .inLoop c :: k)) cs w) b k cs e a' w' := by
    intro m
    induction m using Nat.strongRecOn with
    | _ m ih =>
      intro i hi hm ρ a w hs b k cs
      obtain ⟨e, a1, w1, hq, harr⟩ := hr i hi ρ a w hs b (.inLoop c :: k) cs
      cases e with
      | normal =>
        obtain ⟨ρ1, σ1, h1, j, h2, h3, h4, h5⟩ := hq
        have h6 := h1.forget h3
        rw [h4] at h6
        obtain ⟨e2, a2, w2, hq2, harr2⟩ := ih (μ j) (hm ▸ h5) j h2 rfl ρ1 a1 w1 h6 b k cs
        exact ⟨e2, a2, w2, hq2, .of_steps (Steps.trans harr (.one step_inLoop)) harr2⟩
      | exit id => exact ⟨.exit id, a1, w1, (show Post n M0 w0 N X R (.exit id) a1 w1 from hq), .pass (x := .inLoop c) rfl (fun _ _ => .inl (by simp)) harr⟩
      | ret => exact ⟨.ret, a1, w1, (show Post n M0 w0 N X R .ret a1 w1 from hq), .pass (x := .inLoop c) rfl (fun _ _ => .inl (by simp)) harr⟩
      | goto l => exact hq.elim
      | panic ch => exact hq.elim
      | outgrown => exact hq.elim
  have h0 := hs.forget hL
  rw [hH] at h0
  obtain ⟨e, a', w', hq, harr⟩ := key _ i0 hI rfl ρ a w h0 b k cs
  exact ⟨e, a', w', hq, .of_steps (.one step_loop) harr⟩

theorem arun_nil {all : Array Oper} {K : St → Prop} (h : K σ) : arun Θ Γ all [] σ K := h
theorem arun_step {all : Array Oper} {K : St → Prop} {o : Oper} {rest : List Oper} (hg : o.guard = none) (h : astep Θ Γ o σ = some σ') (k : arun Θ Γ all rest σ' K) : arun Θ Γ all (o :: rest) σ K := by
  unfold arun; rw [hg]; exact ⟨σ', h, k⟩
/-- What an operation comes to, and that it goes on from there. -/
def Okk (r : Option St) (K : St → Prop) : Prop := ∃ σ', r = some σ' ∧ K σ'
theorem okk_some {s : St} {K : St → Prop} (h : K s) : Okk (some s) K := ⟨s, rfl, h⟩
theorem okk_ite {s : St} {K : St → Prop} {c : Prop} {i : Decidable c} (hc : c) (h : K s) : Okk (@ite _ c i (some s) none) K := ⟨s, if_pos hc, h⟩
theorem okk_ifn {s : St} {K : St → Prop} {c : Prop} {i : Decidable c} (hc : ¬ c) (h : K s) : Okk (@ite _ c i none (some s)) K := ⟨s, if_neg hc, h⟩
theorem arun_any {all : Array Oper} {K : St → Prop} {o : Oper} {rest : List Oper} {r : Option St} (hg : o.guard = none) (h : astep Θ Γ o σ = r) (k : Okk r fun σ' => arun Θ Γ all rest σ' K) : arun Θ Γ all (o :: rest) σ K := by
  obtain ⟨σ', h1, h2⟩ := k
  exact arun_step hg (h.trans h1) h2
theorem arun_if {all : Array Oper} {K : St → Prop} {o : Oper} {rest : List Oper} {c : Prop} {i : Decidable c} (hg : o.guard = none) (h : astep Θ Γ o σ = @ite _ c i (some σ') none) (hc : c) (k : arun Θ Γ all rest σ' K) : arun Θ Γ all (o :: rest) σ K :=
  arun_step hg (by rw [h, if_pos hc]) k
theorem arun_ifn {all : Array Oper} {K : St → Prop} {o : Oper} {rest : List Oper} {c : Prop} {i : Decidable c} (hg : o.guard = none) (h : astep Θ Γ o σ = @ite _ c i none (some σ')) (hc : ¬ c) (k : arun Θ Γ all rest σ' K) : arun Θ Γ all (o :: rest) σ K :=
  arun_step hg (by rw [h, if_neg hc]) k
theorem arun_guard {all : Array Oper} {K : St → Prop} {dst : Option Tmp} {op : Op} {ty : TypeId} {pos : String} {af : Array Edge} {rest : List Oper} {g d : Nat} {b want : Bool} (h : guardTmp all g = some d) (hb : σ.t d = .val (.bool b))
    (ht : b = want → arun Θ Γ all (⟨dst, op, ty, pos, af, none⟩ :: rest) σ K) (hf : b = !want → arun Θ Γ all rest (σ.set dst (.val undef)) K) : arun Θ Γ all (⟨dst, op, ty, pos, af, some (g, want)⟩ :: rest) σ K := by
  unfold arun
  simp only [h]
  refine .inl ⟨b, hb, fun hw => ?_, fun hw => hf (by cases b <;> cases want <;> simp_all)⟩
  have := ht hw
  unfold arun at this
  exact this
theorem arun_gyes {all : Array Oper} {K : St → Prop} {dst : Option Tmp} {op : Op} {ty : TypeId} {pos : String} {af : Array Edge} {rest : List Oper} {g d : Nat} {b want : Bool} (h : guardTmp all g = some d) (hb : σ.t d = .val (.bool b)) (hw : b = want)
    (ht : arun Θ Γ all (⟨dst, op, ty, pos, af, none⟩ :: rest) σ K) : arun Θ Γ all (⟨dst, op, ty, pos, af, some (g, want)⟩ :: rest) σ K :=
  arun_guard h hb (fun _ => ht) (fun hf => by subst hw; cases b <;> cases hf)
theorem arun_gno {all : Array Oper} {K : St → Prop} {dst : Option Tmp} {op : Op} {ty : TypeId} {pos : String} {af : Array Edge} {rest : List Oper} {g d : Nat} {b want : Bool} (h : guardTmp all g = some d) (hb : σ.t d = .val (.bool b)) (hw : b = !want)
    (hf : arun Θ Γ all rest (σ.set dst (.val undef)) K) : arun Θ Γ all (⟨dst, op, ty, pos, af, some (g, want)⟩ :: rest) σ K :=
  arun_guard h hb (fun ht => by subst ht; cases b <;> cases hw) (fun _ => hf)

/-- A guard that did not come about. -/
theorem arun_gundef {all : Array Oper} {K : St → Prop} {dst : Option Tmp} {op : Op} {ty : TypeId} {pos : String} {af : Array Edge} {rest : List Oper} {g d : Nat} {want : Bool} (h : guardTmp all g = some d) (hb : σ.t d = .val undef)
    (hf : arun Θ Γ all rest (σ.set dst (.val undef)) K) : arun Θ Γ all (⟨dst, op, ty, pos, af, some (g, want)⟩ :: rest) σ K := by
  unfold arun
  simp only [h]
  exact .inr ⟨hb, hf⟩

theorem slook_nil (j : Nat) : slook [] j = .top := rfl
theorem slook_cons (k : Nat) (v : AV) (r : List (Nat × AV)) (j : Nat) : slook ((k, v) :: r) j = if j = k then v else slook r j := rfl
theorem upd_app {α : Type} (f : Nat → α) (i : Nat) (v : α) (j : Nat) : upd f i v j = if j = i then v else f j := rfl
theorem hlook_nil (j : Nat) : hlook [] j = none := rfl
theorem hlook_cons (k : Nat) (v : Buf) (r : List (Nat × Buf)) (j : Nat) : hlook ((k, v) :: r) j = if j = k then some v else hlook r j := rfl
theorem ite_some {α : Type} {c : Prop} [Decidable c] {x y : α} : (if c then some x else none) = some y ↔ c ∧ x = y := by split <;> simp_all
theorem map_ite_some {α β : Type} {c : Prop} [Decidable c] {x : α} {f : α → β} : (if c then some x else none).map f = if c then some (f x) else none := by split <;> rfl
theorem ite_bind {c : Prop} [Decidable c] {x y : St} {K : St → Prop} : (∃ σ', (if c then some x else none) = some σ' ∧ K σ') ↔ c ∧ K x := by split <;> simp_all
theorem ints_length (k : IntKind) (L : List Int) : (ints k L).length = L.length := by simp [ints]
theorem ints_getD (k : IntKind) (L : List Int) (i : Nat) (h : i < L.length) : (ints k L).getD i .top = vInt k (L.getD i 0) := by
  simp [ints, List.getD_eq_getElem?_getD, h]

/-! ### What is weakened -/
/-- A nil slice is read as an empty row. -/
def nrm : AV → AV
  | .val (.slice none 0 0) => .lst []
  | x => x
theorem nrm_rep {w : World} {M : Nat → Prop} {ρ : Nat → Value} {h : Hp} {x : AV} {v : Value} (hx : RepT w M ρ h x v) : RepT w M ρ h (nrm x) v := by
  unfold nrm
  split
  · obtain rfl := hx.val_eq
    exact RepT.of_rep (.lst [] none 0 1 0 0 (fun _ => undef) (Nat.le_refl _) (fun x hx => by simp at hx) (fun h => by simp at h) (fun j y hy => by simp [flat] at hy) (fun j y hy => by simp [flat] at hy))
  · exact hx

theorem awp_nrm {c : Code} (s : Nat) (h : AWP P n M0 w0 c N X R ⟨upd σ.t s (nrm (σ.t s)), σ.h⟩) : AWP P n M0 w0 c N X R σ := fun ρ a w hs => h ρ a w ⟨hs.size, hs.defers, hs.hp, fun t => by
  by_cases ht : t = s
  · subst ht
    show RepT w _ ρ _ (upd σ.t t (nrm (σ.t t)) t) _
    rw [upd_same]
    exact nrm_rep (hs.tm t)
  · show RepT w _ ρ _ (upd σ.t s (nrm (σ.t s)) t) _
    rw [upd_ne _ _ ht]
    exact hs.tm t⟩

/-- A nil slice becomes a row of the call's own. -/
theorem awp_own {c : Code} (s id : Nat) (e : TypeId) (sz : Nat) (hsz : 0 < sz) (hs0 : σ.t s = .val (.slice none 0 0)) (hid : σ.h id = none)
    (h : AWP P n M0 w0 c N X R ⟨upd σ.t s (.own id), upd σ.h id (some ⟨e, sz, [], none⟩)⟩) : AWP P n M0 w0 c N X R σ := fun ρ a w hs => by
  have hB : Below w.heap.size w w := Below.refl _ _
  have hnew : ∀ k, (Value.slice none 0 0).ownBlock = some k → w.heap.size ≤ k := fun k hk => by simp [Value.ownBlock] at hk
  refine h (upd ρ id (.slice none 0 0)) a w ⟨hs.size, hs.defers, hs.hp.fresh hB hid rfl hnew ⟨fun x hx => by simp at hx, hsz, [], World.ownsRow_nil _ _ _ _, .nil⟩, fun t => ?_⟩
  by_cases ht : t = s
  · subst ht
    show RepT w _ _ _ (upd σ.t t (.own id) t) _
    rw [upd_same]
    have := hs.tm t
    rw [hs0] at this
    exact ⟨_, upd_same _ _ _, by rw [upd_same]; exact this.val_eq⟩
  · show RepT w _ _ _ (upd σ.t s (.own id) t) _
    rw [upd_ne _ _ ht]
    exact (hs.tm t).fresh hB hid hnew

/-- Own rows that are only read from here on. -/
theorem awp_freeze {c : Code} (ids : List Nat) (h : AWP P n M0 w0 c N X R ⟨fun t => match refId (σ.t t) with | some id => if id ∈ ids then frz σ.h (σ.t t) else σ.t t | none => σ.t t, eraseAll ids σ.h⟩) : AWP P n M0 w0 c N X R σ := fun ρ a w hs => by
  refine h ρ a w ⟨hs.size, hs.defers, hs.hp.erase ids, fun t => ?_⟩
  have ht := hs.tm t
  show RepT w _ ρ _ (match refId (σ.t t) with | some id => if id ∈ ids then frz σ.h (σ.t t) else σ.t t | none => σ.t t) _
  cases hid : refId (σ.t t) with
  | none => exact (RepT.of_rep ((RepT.rep hid ht).keep (Nat.le_refl _) (fun _ _ _ => rfl) (fun b _ hb => inM_erase hb)))
  | some id =>
    simp only
    split
    · rename_i hm
      exact RepT.of_rep (frz_rep hs.hp ht (fun i hi => by rw [hid] at hi; cases hi; exact hm))
    · rename_i hm
      refine ht.keep (Nat.le_refl _) (fun _ _ _ => rfl) (fun b _ hb => inM_erase hb) (fun i b hi hb => ⟨b, ?_, rfl, rfl, Nat.le_refl _⟩)
      rw [hid] at hi
      cases hi
      unfold eraseAll
      rw [if_neg hm]
      exact hb

/-! ### Functions -/
def args0 : List AV → Nat → List (Nat × AV)
  | [], _ => []
  | x :: xs, k => (k, x) :: args0 xs (k + 1)

theorem slook_args : ∀ (xs : List AV) (k t : Nat), slook (args0 xs k) t = if k ≤ t ∧ t < k + xs.length then xs.getD (t - k) .top else .top
  | [], k, t => by simp [args0, slook]
  | x :: xs, k, t => by
    have ih := slook_args xs (k + 1) t
    simp only [args0, slook, ih, List.length_cons]
    by_cases htk : t = k
    · subst htk; simp
    · rw [if_neg htk]
      by_cases h : k + 1 ≤ t ∧ t < k + 1 + xs.length
      · rw [if_pos h, if_pos (by omega), show t - k = (t - (k + 1)) + 1 by omega]
        simp
      · rw [if_neg h, if_neg (by omega)]

def Res (rs : List Nat) (σ : St) : AV := match rs with
  | [r] => frz σ.h (σ.t r)
  | rs => .tup (rs.map fun r => frz σ.h (σ.t r))

theorem sim_start {args : List AV} {vs : List Value} {M : Nat → Prop} {w : World} (hM : ∀ b, M b → b < w.heap.size) (hR : RepL w M args vs) (hl : args.length ≤ n) :
    Sim n M ⟨w, w.heap.size, fun _ => True, Nat.le_refl _⟩ (fun _ => undef) (st (args0 args 0) []) { tmps := vs.toArray ++ Array.replicate (n - vs.toArray.size) undef, defers := [] } w := by
  have hin : ∀ b, inM M (fun _ => undef) (hlook []) b → M b := fun b hb => by
    rcases hb with hb | ⟨i, bf, h1, _⟩
    · exact hb
    · cases h1
  refine ⟨by simp [← hR.1]; omega, rfl, ⟨⟨rfl, rfl, rfl, Nat.le_refl _, fun _ _ _ => rfl⟩, (fun id b k hb => by cases hb), (fun id b u hb => by cases hb), hM, (fun id b hb => by cases hb), (fun i j bi bj k _ hi => by cases hi)⟩, fun t => ?_⟩
  show RepT w _ _ _ (slook (args0 args 0) t) _
  rw [slook_args]
  split
  · rename_i ht
    have hlt : t < args.length := by omega
    have hvt : t < vs.length := by rw [← hR.1]; exact hlt
    have hx : args[t]? = some (args.getD (t - 0) .top) := by simp [List.getD_eq_getElem?_getD, List.getElem?_eq_getElem hlt]
    have hv : (vs.toArray ++ Array.replicate (n - vs.toArray.size) undef).getD t undef = vs[t] := by
      simp [Array.getD_eq_getD_getElem?, Array.getElem?_append, hvt]
    rw [hv]
    exact RepT.of_rep ((hR.2 t _ _ hx (List.getElem?_eq_getElem hvt)).keep (Nat.le_refl _) (fun _ _ _ => rfl) (fun b _ hb => hin b hb))
  · exact RepT.of_rep (.top _)

def valRes (rs : List Nat) (tmps : Array Value) : Value := match rs with
  | [r] => tmps.getD r undef
  | rs => .tuple (rs.map fun r => tmps.getD r undef).toArray

theorem results_of {fn : Func} {rs : List Nat} (hres : fn.results = (rs.map ResultVar.tmp).toArray) (tmps : Array Value) (w : World) :
    (results fn tmps).run P w = .ok (valRes rs tmps) w := by
  have key : ∀ (l : List Nat), (List.mapM (fun x => (match x with | .tmp t => pure (tmps.getD t undef) | .cell a t => do loadVar t (← asAddr (tmps.getD a undef)) : Sem Value)) (l.map ResultVar.tmp)).run P w = .ok (l.map fun r => tmps.getD r undef) w := by
    intro l
    induction l with
    | nil => rfl
    | cons r l ih =>
      simp only [List.map_cons, List.mapM_cons, Sem.run_bind, Sem.run_pure, Result.andThen, ih]
  have this : (Array.mapM (fun x => (match x with | .tmp t => pure (tmps.getD t undef) | .cell a t => do loadVar t (← asAddr (tmps.getD a undef)) : Sem Value)) (rs.map ResultVar.tmp).toArray).run P w = .ok (rs.map fun r => tmps.getD r undef).toArray w := by
    rw [List.mapM_toArray]
    show ((List.mapM _ (rs.map ResultVar.tmp) >>= fun l => pure l.toArray : Sem (Array Value))).run P w = _
    rw [Sem.run_bind, key]
    rfl
  have e : results fn tmps = (do
      let vs ← Array.mapM (fun x => (match x with | .tmp t => pure (tmps.getD t undef) | .cell a t => do loadVar t (← asAddr (tmps.getD a undef)) : Sem Value)) (rs.map ResultVar.tmp).toArray
      pure (if h : vs.size = 1 then vs[0] else .tuple vs) : Sem Value) := by
    rw [← hres]; rfl
  rw [e]
  simp only [Sem.run_bind, this, Result.andThen, Sem.run_pure]
  match rs with
  | [] => rfl
  | [r] => rfl
  | r :: s :: l => simp [valRes]

theorem res_rep {ρ : Nat → Value} {a : Act} {w : World} {rs : List Nat} (hs : Sim n M0 w0 ρ σ a w) :
    Rep w M0 (Res rs σ) (valRes rs a.tmps) := by
  have one : ∀ r, Rep w M0 (frz σ.h (σ.t r)) (a.tmps.getD r undef) := fun r =>
    (frz_rep (ids := (refId (σ.t r)).toList) hs.hp (hs.tm r) (fun id hid => by simp [hid])).keep (Nat.le_refl _) (fun _ _ _ => rfl) (fun b _ hb => .inl hb)
  have many : ∀ (l : List Nat), Rep w M0 (.tup (l.map fun r => frz σ.h (σ.t r))) (.tuple (l.map fun r => a.tmps.getD r undef).toArray) := fun l => by
    refine .tup _ _ (by simp) (fun i x v hx hv => ?_)
    simp at hx hv
    obtain ⟨r, h1, rfl⟩ := hx
    obtain ⟨r', h2, rfl⟩ := hv
    rw [h1] at h2
    cases h2
    exact (by simpa using one r)
  match rs with
  | [] => exact many []
  | [r] => exact one r
  | r :: s :: l => exact many (r :: s :: l)

theorem pure_of_awp {f : FuncId} {fn : Func} {c : Code} {sp : List AV → Option AV} (rs : List Nat) (hf : P.funcs[f]? = some fn) (hb : fn.body = some c) (hn : fn.ntmps = n) (hres : fn.results = (rs.map ResultVar.tmp).toArray) 
    (h : ∀ (M0 : Nat → Prop) (w0 : Bs) (args : List AV) (r : AV), sp args = some r → args.length ≤ n ∧ AWP P n M0 w0 c (fun σ => Res rs σ = r) (fun _ _ => False) (fun σ => Res rs σ = r) (st (args0 args 0) [])) :
    PureOK P f sp := by
  intro M args vs w r hM hR hr
  obtain ⟨hl, hA⟩ := h M ⟨w, w.heap.size, fun _ => True, Nat.le_refl _⟩ args r hr
  refine calls_of_wp hf hb ?_
  rw [hn]
  refine wp_mono (hA _ _ _ (sim_start hM hR hl)) fun e a w' q => ?_
  have fin : ∀ {ρ σ}, Sim n M ⟨w, w.heap.size, fun _ => True, Nat.le_refl _⟩ ρ σ a w' → Res rs σ = r → a.defers = [] ∧ ∃ v, (results fn a.tmps).run P w' = .ok v w' ∧ ∃ v', Ending.returned v = .returned v' ∧ Rep w' M r v' ∧ Below w.heap.size w w' := by
    intro ρ σ hs hrs
    refine ⟨hs.defers, _, results_of hres a.tmps w', _, rfl, ?_, ⟨hs.hp.below.os, hs.hp.below.tape, hs.hp.below.output, hs.hp.below.size, fun k hk => hs.hp.below.block k hk trivial⟩⟩
    rw [← hrs]
    exact res_rep hs
  cases e with
  | normal => obtain ⟨ρ, σ, h1, h2⟩ := q; exact fin h1 h2
  | ret => obtain ⟨ρ, σ, h1, h2⟩ := q; exact fin h1 h2
  | exit i => obtain ⟨ρ, σ, h1, h2⟩ := q; exact h2.elim
  | goto l => exact q.elim
  | panic c => exact q.elim
  | outgrown => exact q.elim

end
end Go.Abs
