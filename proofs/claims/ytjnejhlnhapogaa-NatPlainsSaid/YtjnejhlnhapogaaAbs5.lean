/- Loads, stores, slices, rows that are made. -/
import Derived.Test.YtjnejhlnhapogaaAbs4
namespace Go.Abs
open Go Go.RowKit
set_option linter.unusedVariables false
set_option linter.unusedSimpArgs false

section
variable {P : Program} {n : Nat} {M0 : Nat → Prop} {w0 : Bs} {ρ : Nat → Value} {σ σ' : St} {a : Act} {w : World} {o : Oper} {Q : Exit → Act → World → Prop}

theorem add_zero_spot (b o j : Nat) : (⟨b, o, none⟩ : Addr).add j = ⟨b, o + j, none⟩ := by unfold Addr.add; split <;> simp_all

theorem Rep.val_eq {M : Nat → Prop} {u v : Value} (hr : Rep w M (.val u) v) : v = u := by cases hr; rfl

theorem flat_get1 {L : List AV} (hu : uni 1 L) {i : Nat} {x : AV} (hi : L[i]? = some x) : (flat L)[i]? = (cellsOf x)[0]? := by
  have := flat_get hu hi (show 0 < 1 by omega)
  simpa using this

theorem run_aConv {sh1 sh2 : Sh} {s t : TypeId} {ax r : AV} {vx : Value} {h : Hp} (hh : SimH M0 w0 ρ h w) (hs : ShOK P s sh1) (ht : ShOK P t sh2) (hx : RepT w (inM M0 ρ h) ρ h ax vx)
    (hr : aConv sh1 sh2 ax h = some r) : ∃ v, RepT w (inM M0 ρ h) ρ h r v ∧ (convert s t vx).run P w = .ok v w := by
  unfold aConv at hr
  split at hr
  · rename_i k k' i
    obtain rfl := hx.val_eq
    have hd : P.underlying t = some (.int k) := ht.1
    have hex : ∃ d, P.underlying s = some d := by
      cases sh1 with
      | int k => exact ⟨_, hs.1⟩
      | bool => exact ⟨_, hs.1⟩
      | str => exact ⟨_, hs.1⟩
      | slice e sz bytes z ek => exact ⟨_, hs.1⟩
      | struct fs sz z => obtain ⟨fields, _, _, h1, _⟩ := hs; exact ⟨_, h1⟩
      | other => simp at hr
    obtain ⟨d, hd'⟩ := hex
    have hr' : r = vInt k (k.wrap i) := by cases sh1 <;> simp at hr <;> exact hr.symm
    subst hr'
    refine ⟨_, RepT.of_rep (.val _), ?_⟩
    simp only [convert, Sem.run_bind, run_underlying hd', run_underlying hd, Result.andThen]
    cases d <;> rfl
  · rename_i s'
    obtain rfl := hx.val_eq
    split at hr
    · cases hr
      exact ⟨_, RepT.of_rep (.val _), by simp [convert, run_underlying (show P.underlying s = some .string from hs.1), run_underlying (show P.underlying t = some .string from ht.1), Result.andThen]⟩
    · cases hr
  · split at hr
    · rename_i _ e by_ z xs he
      cases hL : asInts .u8 xs with
      | none => simp [hL] at hr
      | some L =>
        simp [hL] at hr
        subst hr
        obtain rfl := asInts_some hL
        obtain ⟨ad, c, sz, b, off, f, rfl, h1, h2, h3, h4, h5, _⟩ := elems_rep hh hx he
        have hse : P.underlying s = some (.slice e) := hs.1
        have hee : P.underlying e = some (.int .u8) := hs.2.2.2.1 _ rfl
        have htt : P.underlying t = some .string := ht.1
        refine ⟨_, RepT.of_rep (.val _), ?_⟩
        cases ad with
        | none =>
          have h0 : L = [] := by
            cases L with
            | nil => rfl
            | cons _ _ => have := (h3 (by simp [ints])).1; cases this
          subst h0
          exact run_convert_bytes_nil w s e hse hee _ _ t htt
        | some ad =>
          by_cases h0 : 0 < (ints .u8 L).length
          · obtain ⟨h6, h7⟩ := h3 h0
            cases h6
            refine run_convert_bytes_arg w s e hse hee b off _ c L (by simp [ints]) (fun i hi => ?_) t htt
            have hi' : i < L.length := by simpa [ints] using hi
            have hfl : ∀ (L : List Int) (i : Nat), i < L.length → (flat (ints .u8 L))[i]? = some (vInt .u8 (L.getD i 0)) := by
              intro L
              induction L with
              | nil => intro i hi; simp at hi
              | cons x L ih =>
                intro i hi
                cases i with
                | zero => simp [ints, flat, cellsOf, vInt]
                | succ i =>
                  have := ih i (by simpa using hi)
                  simpa [ints, flat, cellsOf, vInt] using this
            have h8 := hfl L i hi'
            rw [h4 i _ h8]
            rw [Rep.val_eq (h5 i _ h8)]
          · have h0' : L = [] := by
              cases L with
              | nil => rfl
              | cons _ _ => simp [ints] at h0
            subst h0'
            rw [run_convert_bytes_string w s t e _ _ _ hse hee htt]
            simp [ints, strOfNums, Conv.bytesToString, Result.andThen, loadCells, loadCellsFrom]
            rfl
    · cases hr
  · cases hr

theorem run_aIndex {t e : TypeId} {sz by_ : Nat} {z : AV} {ek : Option IntKind} {ax r : AV} {vx : Value} {h : Hp} {k : IntKind} {i : Int} (hh : SimH M0 w0 ρ h w) (hsh : ShOK P t (.slice e sz by_ z ek))
    (hx : RepT w (inM M0 ρ h) ρ h ax vx) (hr : aIndex sz h ax i = some r) : ∃ v, RepT w (inM M0 ρ h) ρ h r v ∧ (Instr.indexAt t vx (.int k i)).run P w = .ok v w := by
  obtain ⟨hu, _, h0, _, ti, zv, hi, hsz, _⟩ := hsh
  have hso : ∀ w : World, (sizeOf e).run P w = .ok sz w := fun w => by simp [sizeOf, typeInfo, hi, hsz]
  have main : ∀ (b off len cap : Nat), 0 ≤ i → i < len → (Instr.indexAt t (.slice (some ⟨b, off, none⟩) len cap) (.int k i)).run P w = .ok (.pointer (some ⟨b, off + i.toNat * sz, none⟩)) w := by
    intro b off len cap h1 h2
    simp [Instr.indexAt, asIntOf, run_underlying hu, Result.andThen, h1, h2, hso, add_zero_spot]
  unfold aIndex at hr
  split at hr
  · rename_i xs
    split at hr
    · rename_i hc
      obtain ⟨h1, h2, h3⟩ := hc
      cases hr
      have hx : Rep w (inM M0 ρ h) (.lst xs) vx := hx
      cases hx with
      | lst _ ad c sz' b off f g1 g2 g3 g4 g5 =>
        obtain ⟨rfl, g6, g7⟩ := g3 (by omega)
        have hlt : i.toNat < xs.length := by omega
        have hel : xs[i.toNat]? = some (xs.getD i.toNat .top) := by simp [List.getD_eq_getElem?_getD, List.getElem?_eq_getElem hlt]
        have hsz' : sz' = sz := by
          rw [← h3]
          exact (g2 _ (List.mem_of_getElem? hel)).symm
        subst hsz'
        refine ⟨_, RepT.of_rep (.pe _ b (off + i.toNat * sz') (fun j => f (i.toNat * sz' + j)) g6 g7 (fun j y hy => ?_) (fun j y hy => ?_)), main _ _ _ _ h1 h2⟩
        · have hj : j < sz' := by
            have := (List.getElem?_eq_some_iff.1 hy).1
            omega
          have := g4 (i.toNat * sz' + j) y (by rw [flat_get g2 hel hj]; exact hy)
          rw [Nat.add_assoc]
          exact this
        · have hj : j < sz' := by
            have := (List.getElem?_eq_some_iff.1 hy).1
            omega
          exact g5 (i.toNat * sz' + j) y (by rw [flat_get g2 hel hj]; exact hy)
    · cases hr
  · rename_i id
    split at hr
    · rename_i b hb
      split at hr
      · rename_i hc
        obtain ⟨h1, h2, h3⟩ := hc
        cases hr
        obtain ⟨b', hb', rfl⟩ := hx
        rw [hb] at hb'
        cases hb'
        subst h3
        obtain ⟨_, _, vs, hown, _⟩ := hh.own id b hb
        rcases hown.2 with ⟨_, h'⟩ | ⟨g, cap, cur, hv, _⟩
        · omega
        · refine ⟨.pointer (some ⟨g, i.toNat * b.sz, none⟩), ⟨b, hb, by omega, g, _, cap, hv, by rw [Nat.add_zero]⟩, ?_⟩
          rw [hv, main _ _ _ _ h1 h2, Nat.zero_add]
      · cases hr
    · cases hr
  · rename_i id off len
    split at hr
    · rename_i b hb
      split at hr
      · rename_i hc
        obtain ⟨h1, h2, h3⟩ := hc
        cases hr
        obtain ⟨b', hb', hle, ad, c, rfl, hlc, hat⟩ := hx
        rw [hb] at hb'
        cases hb'
        subst h3
        obtain ⟨g, n', cap, hv, rfl⟩ := hat (by omega)
        refine ⟨.pointer (some ⟨g, off * b.sz + i.toNat * b.sz, none⟩), ⟨b, hb, by omega, g, n', cap, hv, by rw [Nat.add_mul]; rfl⟩, main _ _ _ _ h1 h2⟩
      · cases hr
    · cases hr
  · cases hr

theorem run_loadScalar {t : TypeId} (hu : isAggB P t = false) (hs : (P.underlying t).isSome = true) {b off : Nat} {v : Value} (hc : w.cell? ⟨b, off, none⟩ = some v) : (Instr.loadAt t (.pointer (some ⟨b, off, none⟩))).run P w = .ok v w := by
  obtain ⟨d, hd⟩ := Option.isSome_iff_exists.1 hs
  unfold isAggB at hu
  rw [hd] at hu
  have : (isAgg t).run P w = .ok false w := by
    unfold isAgg
    simp only [Sem.run_bind, run_underlying hd, Result.andThen]
    cases d <;> simp at hu ⊢
  simp [Instr.loadAt, Instr.sureAddr, loadVar, this, Result.andThen, load, Sem.run, hc]

theorem run_loadAgg {t : TypeId} {fields : Array Field} (hu : P.underlying t = some (.struct fields)) {i : TypeInfo} (hi : P.info? t = some i) {b off : Nat} (vs : List Value) (hl : vs.length = i.size)
    (hc : ∀ (j : Nat) v, vs[j]? = some v → w.cell? ⟨b, off + j, none⟩ = some v) : (Instr.loadAt t (.pointer (some ⟨b, off, none⟩))).run P w = .ok (.agg vs.toArray) w := by
  have := run_loadVar_mid (P := P) w b off t vs _ hc hu rfl (by rw [hi]; simp [hl])
  simp [Instr.loadAt, Instr.sureAddr, this]

theorem ShOK.scalar {t : TypeId} {sh : Sh} (h : ShOK P t sh) (h1 : sh ≠ .other) (h2 : ∀ fs sz z, sh ≠ .struct fs sz z) : isAggB P t = false ∧ (P.underlying t).isSome = true := by
  cases sh with
  | int k => have h : P.underlying t = _ := h.1; unfold isAggB; rw [h]; exact ⟨rfl, rfl⟩
  | bool => have h : P.underlying t = _ := h.1; unfold isAggB; rw [h]; exact ⟨rfl, rfl⟩
  | str => have h : P.underlying t = _ := h.1; unfold isAggB; rw [h]; exact ⟨rfl, rfl⟩
  | slice e sz by_ z ek => have h := h.1; unfold isAggB; rw [h]; exact ⟨rfl, rfl⟩
  | struct fs sz z => exact absurd rfl (h2 fs sz z)
  | other => exact absurd rfl h1

/-- A variable that reads as cells. -/
theorem run_takeVar {t : TypeId} {sh : Sh} (hsh : ShOK P t sh) {M : Nat → Prop} {b off : Nat} {cs : List AV} {f : Nat → Value} {r : AV} (hr : takeVar sh cs = some r)
    (hc : ∀ (j : Nat) y, cs[j]? = some y → w.cell? ⟨b, off + j, none⟩ = some (f j)) (hR : ∀ (j : Nat) y, cs[j]? = some y → Rep w M y (f j)) :
    ∃ v, Rep w M r v ∧ (Instr.loadAt t (.pointer (some ⟨b, off, none⟩))).run P w = .ok v w := by
  unfold takeVar at hr
  split at hr
  · cases hr
  · rename_i fs sz z
    split at hr
    · rename_i hle
      cases hr
      obtain ⟨fields, i, zv, hu, hi, hsz, _⟩ := hsh
      have hl : (cs.take sz).length = sz := by simp; omega
      refine ⟨_, .agg (cs.take sz) ((List.range sz).map f).toArray (by simp; omega) (fun j x v hx hv => ?_), run_loadAgg hu hi ((List.range sz).map f) (by simp [hsz]) (fun j v hv => ?_)⟩
      · have hj : j < sz := by have := (List.getElem?_eq_some_iff.1 hx).1; omega
        simp [hj] at hv
        subst hv
        rw [List.getElem?_take, if_pos hj] at hx
        exact hR j x hx
      · have hj : j < sz := by have := (List.getElem?_eq_some_iff.1 hv).1; simpa using this
        simp [hj] at hv
        subst hv
        exact hc j _ (List.getElem?_eq_getElem (by omega))
    · cases hr
  · rename_i h1 h2
    obtain ⟨g1, g2⟩ := hsh.scalar (fun e => h1 e) (fun fs sz z e => h2 fs sz z e)
    cases cs with
    | nil => simp at hr
    | cons x cs =>
      simp at hr
      subst hr
      exact ⟨f 0, hR 0 x rfl, run_loadScalar g1 g2 (by simpa using hc 0 x rfl)⟩

theorem run_aLoad {t : TypeId} {sh : Sh} {ap r : AV} {vp : Value} {h : Hp} (hh : SimH M0 w0 ρ h w) (hsh : ShOK P t sh)
    (hp : RepT w (inM M0 ρ h) ρ h ap vp) (hr : aLoad sh h ap = some r) : ∃ v, Rep w (inM M0 ρ h) r v ∧ (Instr.loadAt t vp).run P w = .ok v w := by
  unfold aLoad at hr
  split at hr
  · rename_i x
    have hp : Rep w (inM M0 ρ h) (.pe x) vp := hp
    cases hp with
    | pe _ b off f g1 g2 g3 g4 => exact run_takeVar hsh hr g3 g4
  · rename_i id i off
    split at hr
    · rename_i b hb
      obtain ⟨b', hb', hlt, g, n', cap, hv, rfl⟩ := hp
      rw [hb] at hb'
      cases hb'
      obtain ⟨h1, h2, vs, hown, hR⟩ := hh.own id b hb
      rw [hv] at hown
      have hn : n' = b.xs.length := by
        rcases hown.2 with ⟨h', _⟩ | ⟨_, _, _, h', _⟩ <;> cases h'
        rfl
      subst hn
      have hel : b.xs[i]? = some (b.xs.getD i .top) := by simp [List.getD_eq_getElem?_getD, List.getElem?_eq_getElem hlt]
      have hlen := h1 _ (List.mem_of_getElem? hel)
      have key : ∀ (j : Nat) y, ((cellsOf (b.xs.getD i .top)).drop off)[j]? = some y → (flat b.xs)[i * b.sz + (off + j)]? = some y := by
        intro j y hy
        rw [List.getElem?_drop] at hy
        have hj := (List.getElem?_eq_some_iff.1 hy).1
        rw [flat_get h1 hel (by omega)]
        exact hy
      refine run_takeVar (f := fun j => vs.getD (i * b.sz + (off + j)) undef) hsh hr (fun j y hy => ?_) (fun j y hy => ?_)
      · obtain ⟨u, hu, _⟩ := hR.get (key j y hy)
        have hj := (List.getElem?_eq_some_iff.1 hu).1
        rw [hown.1] at hj
        rw [Nat.add_assoc, hown.cellAt _ hj, hu]
        simp [List.getD_eq_getElem?_getD, hu]
      · obtain ⟨u, hu, hrep⟩ := hR.get (key j y hy)
        simpa [List.getD_eq_getElem?_getD, hu] using hrep
    · cases hr
  · cases hr

end
end Go.Abs
