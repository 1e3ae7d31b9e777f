/- The abstract state of a call: what its temporaries read as, and the buffers that it may write. -/
import Derived.Test.YtjnejhlnhapogaaAbs1
namespace Go.Abs
open Go Go.RowKit

structure Buf where
  e : TypeId
  sz : Nat
  xs : List AV
  hdr : Option Value

/-- What a call began with: its world, where its own rows begin, and which of the blocks that were there stay as they were. -/
structure Bs where
  w : World
  base : Nat
  F : Nat → Prop
  hb : base ≤ w.heap.size

structure Kept (w0 : Bs) (w : World) : Prop where
  os : w.os = w0.w.os
  tape : w.tape = w0.w.tape
  output : w.output = w0.w.output
  size : w0.w.heap.size ≤ w.heap.size
  block : ∀ k, k < w0.w.heap.size → w0.F k → w.heap[k]? = w0.w.heap[k]?
theorem Kept.base_le {w0 : Bs} {w : World} (h : Kept w0 w) : w0.base ≤ w.heap.size := Nat.le_trans w0.hb h.size
theorem Kept.grow {w0 : Bs} {w w' : World} (h : Kept w0 w) (hb : Below w.heap.size w w') : Kept w0 w' :=
  ⟨hb.os.trans h.os, hb.tape.trans h.tape, hb.output.trans h.output, Nat.le_trans h.size hb.size, fun k hk hf => (hb.block k (Nat.lt_of_lt_of_le hk h.size)).trans (h.block k hk hf)⟩
theorem Kept.grown {w0 : Bs} {w w' : World} {row : Option Nat} (h : Kept w0 w) (hg : w.grownBy w' row) (hr : ∀ k, row = some k → ¬ (k < w0.w.heap.size ∧ w0.F k)) : Kept w0 w' :=
  ⟨hg.os.trans h.os, hg.tape.trans h.tape, hg.output.trans h.output, Nat.le_trans h.size hg.size, fun k hk hf => (hg.block k (Nat.lt_of_lt_of_le hk h.size) (fun e => hr k e.symm ⟨hk, hf⟩)).trans (h.block k hk hf)⟩

abbrev Hp := Nat → Option Buf
def upd {α : Type} (f : Nat → α) (i : Nat) (v : α) : Nat → α := fun j => if j = i then v else f j
theorem upd_same {α : Type} (f : Nat → α) (i : Nat) (v : α) : upd f i v i = v := by simp [upd]
theorem upd_ne {α : Type} (f : Nat → α) {i j : Nat} (v : α) (h : j ≠ i) : upd f i v j = f j := by simp [upd, h]

structure St where
  t : Nat → AV
  h : Hp

def refId : AV → Option Nat
  | .own id => some id
  | .ref id _ _ => some id
  | .po id _ _ => some id
  | _ => none

def inM (M0 : Nat → Prop) (ρ : Nat → Value) (h : Hp) (b : Nat) : Prop := M0 b ∨ ∃ id bf, h id = some bf ∧ (ρ id).ownBlock = some b

def OwnB (w : World) (M : Nat → Prop) (base : Nat) (v : Value) (b : Buf) : Prop :=
  uni b.sz b.xs ∧ 0 < b.sz ∧ ∃ vs, w.ownsRow base b.e b.sz v b.xs.length vs ∧ RepL w M (flat b.xs) vs

structure SimH (M0 : Nat → Prop) (w0 : Bs) (ρ : Nat → Value) (h : Hp) (w : World) : Prop where
  below : Kept w0 w
  off : ∀ id b k, h id = some b → (ρ id).ownBlock = some k → ¬ (k < w0.w.heap.size ∧ w0.F k)
  hdr : ∀ id b u, h id = some b → b.hdr = some u → ρ id = u
  m0 : ∀ b, M0 b → b < w0.base
  own : ∀ id b, h id = some b → OwnB w (inM M0 ρ h) w0.base (ρ id) b
  apart : ∀ i j bi bj k, i ≠ j → h i = some bi → h j = some bj → (ρ i).ownBlock = some k → (ρ j).ownBlock ≠ some k

/-- What an abstract value, own rows' among them, stands for. -/
def RepT (w : World) (M : Nat → Prop) (ρ : Nat → Value) (h : Hp) : AV → Value → Prop
  | .own id, v => ∃ b, h id = some b ∧ v = ρ id
  | .ref id off len, v => ∃ b, h id = some b ∧ off + len ≤ b.xs.length ∧ ∃ a c, v = .slice a len c ∧ len ≤ c ∧ (0 < len → ∃ g n cap, ρ id = .slice (some ⟨g, 0, none⟩) n cap ∧ a = some ⟨g, off * b.sz, none⟩)
  | .po id i off, v => ∃ b, h id = some b ∧ i < b.xs.length ∧ ∃ g n cap, ρ id = .slice (some ⟨g, 0, none⟩) n cap ∧ v = .pointer (some ⟨g, i * b.sz + off, none⟩)
  | x, v => Rep w M x v

theorem RepT.of_rep {w : World} {M : Nat → Prop} {ρ : Nat → Value} {h : Hp} {x : AV} {v : Value} (hr : Rep w M x v) : RepT w M ρ h x v := by
  cases hr <;> (unfold RepT; first | exact .val _ | exact .top _ | exact .anyb _ | (constructor <;> assumption))
theorem RepT.rep {w : World} {M : Nat → Prop} {ρ : Nat → Value} {h : Hp} {x : AV} {v : Value} (hx : refId x = none) (hr : RepT w M ρ h x v) : Rep w M x v := by
  cases x <;> first | exact hr | (simp [refId] at hx)

/-- The facts on an own row that are kept while its length, place and row stay. -/
theorem RepT.keep {w w' : World} {M M' : Nat → Prop} {ρ ρ' : Nat → Value} {h h' : Hp} (hs : w.heap.size ≤ w'.heap.size)
    (hk : ∀ b, b < w.heap.size → ¬ M b → w'.heap[b]? = w.heap[b]?) (hM : ∀ b, b < w.heap.size → M' b → M b) {x : AV} {v : Value}
    (hid : ∀ id b, refId x = some id → h id = some b → ∃ b', h' id = some b' ∧ ρ' id = ρ id ∧ b'.sz = b.sz ∧ b.xs.length ≤ b'.xs.length)
    (hr : RepT w M ρ h x v) : RepT w' M' ρ' h' x v := by
  cases x with
  | own id =>
    obtain ⟨b, hb, rfl⟩ := hr
    obtain ⟨b', h1, h2, h3, h4⟩ := hid id b rfl hb
    exact ⟨b', h1, h2.symm⟩
  | ref id off len =>
    obtain ⟨b, hb, h0, a, c, h1, h2, h3⟩ := hr
    obtain ⟨b', g1, g2, g3, g4⟩ := hid id b rfl hb
    exact ⟨b', g1, by omega, a, c, h1, h2, by rw [g2, g3]; exact h3⟩
  | po id i off =>
    obtain ⟨b, hb, h0, g, n, cap, h1, h2⟩ := hr
    obtain ⟨b', g1, g2, g3, g4⟩ := hid id b rfl hb
    exact ⟨b', g1, by omega, g, n, cap, by rw [g2]; exact h1, by rw [g3]; exact h2⟩
  | _ => exact Rep.keep hs hk hM (show Rep w M _ v from hr)

structure Sim (n : Nat) (M0 : Nat → Prop) (w0 : Bs) (ρ : Nat → Value) (σ : St) (a : Act) (w : World) : Prop where
  size : a.tmps.size = n
  defers : a.defers = []
  hp : SimH M0 w0 ρ σ.h w
  tm : ∀ t, RepT w (inM M0 ρ σ.h) ρ σ.h (σ.t t) (a.tmps.getD t undef)

def St.set (σ : St) (d : Option Nat) (v : AV) : St := match d with
  | some d => ⟨upd σ.t d v, σ.h⟩
  | none => σ

theorem Sim.put {n : Nat} {M0 : Nat → Prop} {w0 : Bs} {ρ ρ' : Nat → Value} {σ : St} {h' : Hp} {a : Act} {w w' : World} {d : Option Nat} {x : AV} {v : Value}
    (hs : Sim n M0 w0 ρ σ a w) (hd : ∀ t, d = some t → t < n) (hp : SimH M0 w0 ρ' h' w')
    (hk : ∀ x v, RepT w (inM M0 ρ σ.h) ρ σ.h x v → (∃ t, x = σ.t t) → RepT w' (inM M0 ρ' h') ρ' h' x v)
    (hv : RepT w' (inM M0 ρ' h') ρ' h' x v) : Sim n M0 w0 ρ' ⟨(σ.set d x).t, h'⟩ (a.put d v) w' := by
  cases d with
  | none => exact ⟨hs.size, hs.defers, hp, fun t => hk _ _ (hs.tm t) ⟨t, rfl⟩⟩
  | some d =>
    refine ⟨by simpa [Act.put] using hs.size, hs.defers, hp, fun t => ?_⟩
    have hlt : d < a.tmps.size := by rw [hs.size]; exact hd d rfl
    by_cases ht : t = d
    · subst ht
      simpa [St.set, upd, Act.put, hlt] using hv
    · have : (a.put (some d) v).tmps.getD t undef = a.tmps.getD t undef := by
        simp [Act.put, Array.getElem?_setIfInBounds_ne (Ne.symm ht)]
      rw [this]
      simp only [St.set, upd, ht, if_false]
      exact hk _ _ (hs.tm t) ⟨t, rfl⟩

/-- An operation that leaves the world as it is. -/
theorem Sim.put_same {n : Nat} {M0 : Nat → Prop} {w0 : Bs} {ρ : Nat → Value} {σ : St} {a : Act} {w : World} {d : Option Nat} {x : AV} {v : Value}
    (hs : Sim n M0 w0 ρ σ a w) (hd : ∀ t, d = some t → t < n) (hv : RepT w (inM M0 ρ σ.h) ρ σ.h x v) : Sim n M0 w0 ρ (σ.set d x) (a.put d v) w := by
  have := Sim.put (d := d) (h' := σ.h) hs hd hs.hp (fun x v h _ => h) hv
  have e : (⟨(σ.set d x).t, σ.h⟩ : St) = σ.set d x := by cases d <;> rfl
  rwa [e] at this

/-! ### Worlds that grow -/
theorem OwnB.keep {w w' : World} {M M' : Nat → Prop} {base : Nat} {v : Value} {b : Buf} (hg : w.grownBy w' none ∨ ∃ row, w.grownBy w' row ∧ (v.ownBlock = none ∨ v.ownBlock ≠ row))
    (hk : ∀ b, b < w.heap.size → ¬ M b → w'.heap[b]? = w.heap[b]?) (hM : ∀ b, b < w.heap.size → M' b → M b) (h : OwnB w M base v b) : OwnB w' M' base v b := by
  obtain ⟨h1, h2, vs, h3, h4⟩ := h
  have hsz : w.heap.size ≤ w'.heap.size := by rcases hg with hg | ⟨_, hg, _⟩ <;> exact hg.size
  refine ⟨h1, h2, vs, ?_, h4.keep hsz hk hM⟩
  rcases hg with hg | ⟨row, hg, hne⟩
  · exact h3.kept hg (by cases v.ownBlock <;> simp)
  · exact h3.kept hg hne

theorem OwnB.lt {w : World} {M : Nat → Prop} {base : Nat} {v : Value} {b : Buf} (h : OwnB w M base v b) : ∀ k, v.ownBlock = some k → base ≤ k ∧ k < w.heap.size := by
  obtain ⟨_, _, vs, h3, _⟩ := h
  exact h3.lt

/-- The world grew and no block that was there has turned. -/
theorem SimH.grow {M0 : Nat → Prop} {w0 : Bs} {ρ : Nat → Value} {h : Hp} {w w' : World} (hs : SimH M0 w0 ρ h w) (hb : Below w.heap.size w w') : SimH M0 w0 ρ h w' := by
  have hg : w.grownBy w' none := ⟨hb.os, hb.tape, hb.output, hb.size, fun k hk _ => hb.block k hk⟩
  refine ⟨hs.below.grow hb, hs.off, hs.hdr, hs.m0, fun id b hid => (hs.own id b hid).keep (.inl hg) (fun b hb' _ => hb.block b hb') (fun b _ h => h), hs.apart⟩

theorem RepT.grow {w w' : World} {M : Nat → Prop} {ρ : Nat → Value} {h : Hp} (hb : Below w.heap.size w w') {x : AV} {v : Value} (hr : RepT w M ρ h x v) : RepT w' M ρ h x v :=
  hr.keep hb.size (fun b h _ => hb.block b h) (fun _ _ h => h) (fun id b _ h => ⟨b, h, rfl, rfl, Nat.le_refl _⟩)

theorem inM_upd_new {M0 : Nat → Prop} {ρ : Nat → Value} {h : Hp} {id : Nat} {v : Value} {b : Buf} {k : Nat} (hn : h id = none) (hk : inM M0 (upd ρ id v) (upd h id (some b)) k) :
    inM M0 ρ h k ∨ v.ownBlock = some k := by
  rcases hk with hk | ⟨i, bf, h1, h2⟩
  · exact .inl (.inl hk)
  · by_cases hi : i = id
    · subst hi
      rw [upd_same] at h2
      exact .inr h2
    · rw [upd_ne _ _ hi] at h1 h2
      exact .inl (.inr ⟨i, bf, h1, h2⟩)

/-- A new own row. -/
theorem SimH.fresh {M0 : Nat → Prop} {w0 : Bs} {ρ : Nat → Value} {h : Hp} {w w' : World} {id : Nat} {v : Value} {b : Buf} (hs : SimH M0 w0 ρ h w) (hb : Below w.heap.size w w')
    (hn : h id = none) (hnone : b.hdr = none) (hnew : ∀ k, v.ownBlock = some k → w.heap.size ≤ k) (hown : OwnB w' (inM M0 (upd ρ id v) (upd h id (some b))) w0.base v b) :
    SimH M0 w0 (upd ρ id v) (upd h id (some b)) w' := by
  have hs' := hs.grow hb
  have hM : ∀ k, k < w.heap.size → inM M0 (upd ρ id v) (upd h id (some b)) k → inM M0 ρ h k := fun k hk hm => (inM_upd_new hn hm).resolve_right (fun hv => by have := hnew k hv; omega)
  refine ⟨hs'.below, fun i bi k hi hki => ?_, fun i bi u hi hu => ?_, hs.m0, fun i bi hi => ?_, fun i j bi bj k hij hi hj hki hkj => ?_⟩
  · by_cases hid : i = id
    · subst hid
      rw [upd_same] at hki
      have := hnew k hki
      have := hs.below.size
      exact fun hc => by omega
    · rw [upd_ne _ _ hid] at hi hki
      exact hs.off i bi k hi hki
  · by_cases hid : i = id
    · subst hid
      rw [upd_same] at hi
      cases hi
      rw [hnone] at hu; cases hu
    · rw [upd_ne _ _ hid] at hi ⊢
      exact hs.hdr i bi u hi hu
  · by_cases hid : i = id
    · subst hid
      rw [upd_same] at hi ⊢
      injection hi with hi
      subst hi
      exact hown
    · rw [upd_ne _ _ hid] at hi ⊢
      exact (hs.own i bi hi).keep (.inl ⟨hb.os, hb.tape, hb.output, hb.size, fun k hk _ => hb.block k hk⟩) (fun k hk _ => hb.block k hk) hM
  · by_cases hid : i = id
    · subst hid
      rw [upd_same] at hki
      rw [upd_ne _ _ (Ne.symm hij)] at hj hkj
      have := (hs.own j bj hj).lt k hkj
      have := hnew k hki
      omega
    · by_cases hjd : j = id
      · subst hjd
        rw [upd_same] at hkj
        rw [upd_ne _ _ hid] at hi hki
        have := (hs.own i bi hi).lt k hki
        have := hnew k hkj
        omega
      · rw [upd_ne _ _ hid] at hi hki
        rw [upd_ne _ _ hjd] at hj hkj
        exact hs.apart i j bi bj k hij hi hj hki hkj

theorem RepT.fresh {w w' : World} {M0 : Nat → Prop} {ρ : Nat → Value} {h : Hp} {id : Nat} {u : Value} {b : Buf} (hb : Below w.heap.size w w') (hn : h id = none)
    (hnew : ∀ k, u.ownBlock = some k → w.heap.size ≤ k) {x : AV} {v : Value} (hr : RepT w (inM M0 ρ h) ρ h x v) :
    RepT w' (inM M0 (upd ρ id u) (upd h id (some b))) (upd ρ id u) (upd h id (some b)) x v :=
  hr.keep hb.size (fun k hk _ => hb.block k hk) (fun k hk hm => (inM_upd_new hn hm).resolve_right (fun hv => by have := hnew k hv; omega))
    (fun i bi _ hi => by
      have hne : i ≠ id := fun e => by subst e; rw [hn] at hi; cases hi
      exact ⟨bi, by rw [upd_ne _ _ hne]; exact hi, upd_ne _ _ hne, rfl, Nat.le_refl _⟩)

end Go.Abs
