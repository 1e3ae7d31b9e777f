/- Cuts, rows that are made, appends. -/
import Derived.Test.YtjnejhlnhapogaaAbs6
namespace Go.Abs
open Go Go.RowKit
set_option linter.unusedVariables false
set_option linter.unusedSimpArgs false

section
variable {P : Program} {n : Nat} {M0 : Nat → Prop} {w0 : Bs} {ρ : Nat → Value} {σ σ' : St} {a : Act} {w : World} {o : Oper} {Q : Exit → Act → World → Prop}

theorem uni_of_uniB {sz : Nat} {xs : List AV} (h : uniB sz xs = true) : uni sz xs := fun x hx => by
  have := List.all_eq_true.1 h x hx
  simpa using this

theorem lenAV_len {h : Hp} {x : AV} {v : Value} {k : Int} (hh : SimH M0 w0 ρ h w) (hx : RepT w (inM M0 ρ h) ρ h x v) (hl : lenAV h x = some k) : (∃ (ad : Option Addr) (l c : Nat), v = .slice ad l c ∧ (l : Int) = k ∧ l ≤ c) ∨ ∃ s, x = .val (.string s) ∧ v = .string s ∧ (s.size : Int) = k := by
  unfold lenAV at hl
  split at hl
  · cases hl
    have hx : Rep w (inM M0 ρ h) (.lst _) v := hx
    cases hx with
    | lst _ ad c sz b o f h1 => exact .inl ⟨ad, _, c, rfl, rfl, h1⟩
  · cases hl
    obtain rfl := hx.val_eq
    exact .inl ⟨none, 0, 0, rfl, rfl, Nat.le_refl _⟩
  · cases hl
    obtain rfl := hx.val_eq
    exact .inr ⟨_, rfl, rfl, rfl⟩
  · rename_i id
    obtain ⟨b, hb, rfl⟩ := hx
    simp [hb] at hl
    obtain ⟨_, _, vs, hown, _⟩ := hh.own id b hb
    rcases hown.2 with ⟨hv, h0⟩ | ⟨g, cap, cur, hv, _, _, hle, _⟩
    · exact .inl ⟨none, 0, 0, hv, by omega, Nat.le_refl _⟩
    · exact .inl ⟨_, _, cap, hv, hl, hle⟩
  · cases hl
    obtain ⟨b, hb, _, ad, c, rfl, h2, _⟩ := hx
    exact .inl ⟨ad, _, c, rfl, rfl, h2⟩
  · cases hl

/-- A bound of a cut, as the operation has it. -/
def BoundIs (v : Option Value) (d k : Int) : Prop := (v = none ∧ k = d) ∨ ∃ kd, v = some (.int kd k)

theorem run_bound (kd : IntKind) (i : Int) (y : Nat) (code : BoundsCode) (h0 : 0 ≤ i) (h1 : i ≤ y) (w : World) : (Instr.sliceBound (.int kd i) y code).run P w = .ok i.toNat w := by
  simp [Instr.sliceBound, asIntOf, h0, h1]

theorem run_bounds {isS : Bool} {len cap : Nat} {lo hi mx : Option Value} {l m : Int}
    (hlo : BoundIs lo 0 l) (hhi : BoundIs hi len m) (hmx : mx = none ∨ (hi ≠ none ∧ ∃ kd, mx = some (.int kd m))) (h0 : 0 ≤ l) (h1 : l ≤ m) (h2 : m ≤ cap) (w : World) :
    ∃ c : Nat, m ≤ c ∧ c ≤ cap ∧ (mx = none → c = cap) ∧ (Instr.sliceBounds isS len cap lo hi mx).run P w = .ok (l.toNat, m.toNat, c) w := by
  have hm : (m.toNat : Int) = m := Int.toNat_of_nonneg (by omega)
  have b1 : ∀ (kd : IntKind) (y : Nat) (code : BoundsCode) (w : World), m ≤ y → (Instr.sliceBound (.int kd m) y code).run P w = .ok m.toNat w := fun kd y code w hy => run_bound kd m y code (by omega) hy w
  have b2 : ∀ (kd : IntKind) (code : BoundsCode) (w : World), (Instr.sliceBound (.int kd l) m.toNat code).run P w = .ok l.toNat w := fun kd code w => run_bound kd l _ code h0 (by omega) w
  rcases hmx with rfl | ⟨hne, kd, rfl⟩
  · refine ⟨cap, h2, Nat.le_refl _, fun _ => rfl, ?_⟩
    rcases hlo with ⟨rfl, e1⟩ | ⟨k1, rfl⟩ <;> rcases hhi with ⟨rfl, e2⟩ | ⟨k2, rfl⟩
    · have : len = m.toNat := by omega
      subst e1
      simp [Instr.sliceBounds, Result.andThen, this]
    · subst e1
      simp only [Instr.sliceBounds, Sem.run_bind, Sem.run_pure, Result.andThen, b1 _ _ _ _ h2]
      rfl
    · have e3 : len = m.toNat := by omega
      subst e3
      simp only [Instr.sliceBounds, Sem.run_bind, Sem.run_pure, Result.andThen, b2]
    · simp only [Instr.sliceBounds, Sem.run_bind, Sem.run_pure, Result.andThen, b1 _ _ _ _ h2, b2]
  · refine ⟨m.toNat, by omega, by omega, (fun h => by cases h), ?_⟩
    rcases hhi with ⟨rfl, e2⟩ | ⟨k2, rfl⟩
    · exact absurd rfl hne
    · rcases hlo with ⟨rfl, e1⟩ | ⟨k1, rfl⟩
      · subst e1
        simp only [Instr.sliceBounds, Sem.run_bind, Sem.run_pure, Result.andThen, b1 _ _ _ _ h2, b1 _ _ _ _ (show m ≤ (m.toNat : Int) by omega)]
        rfl
      · simp only [Instr.sliceBounds, Sem.run_bind, Sem.run_pure, Result.andThen, b1 _ _ _ _ h2, b1 _ _ _ _ (show m ≤ (m.toNat : Int) by omega), b2]

theorem run_slice_gen {t e : TypeId} {sz : Nat} (hu : P.underlying t = some (.slice e)) (hso : (sizeOf e).run P w = .ok sz w) {ad : Option Addr} {len cap : Nat} {lo hi mx : Option Value} {l m : Int}
    (hlo : BoundIs lo 0 l) (hhi : BoundIs hi len m) (hmx : mx = none ∨ (hi ≠ none ∧ ∃ kd, mx = some (.int kd m))) (h0 : 0 ≤ l) (h1 : l ≤ m) (h2 : m ≤ cap) :
    ∃ c : Nat, m ≤ c ∧ c ≤ cap ∧ (Instr.sliceAt t (.slice ad len cap) lo hi mx).run P w = .ok (.slice (if c = l.toNat then ad else ad.map (·.add (l.toNat * sz))) (m - l).toNat (c - l.toNat)) w := by
  obtain ⟨c, k1, k2, _, k3⟩ := run_bounds (P := P) (isS := true) hlo hhi hmx h0 h1 h2 w
  refine ⟨c, k1, k2, ?_⟩
  have hml : (m - l).toNat = m.toNat - l.toNat := by omega
  simp only [Instr.sliceAt, Instr.slice, Sem.run_bind, run_underlying hu, Result.andThen, k3, hso, Sem.run_pure, hml]

theorem run_slice_str {t : TypeId} (hu : P.underlying t = some .string) {s : ByteArray} {lo hi : Option Value} {l m : Int}
    (hlo : BoundIs lo 0 l) (hhi : BoundIs hi s.size m) (h0 : 0 ≤ l) (h1 : l ≤ m) (h2 : m ≤ s.size) :
    (Instr.sliceAt t (.string s) lo hi none).run P w = .ok (.string (s.extract l.toNat m.toNat)) w := by
  obtain ⟨c, k1, k2, _, k3⟩ := run_bounds (P := P) (isS := false) (mx := none) hlo hhi (.inl rfl) h0 h1 h2 w
  simp [Instr.sliceAt, Instr.slice, run_underlying hu, Result.andThen, k3]

theorem run_aSlice {t : TypeId} {sh : Sh} {ax r : AV} {vx : Value} {h : Hp} {lo hi mx : Option Value} {k l m : Int} (hh : SimH M0 w0 ρ h w) (hsh : ShOK P t sh)
    (hx : RepT w (inM M0 ρ h) ρ h ax vx) (hk : lenAV h ax = some k) (hlo : BoundIs lo 0 l) (hhi : BoundIs hi k m) (hmx : mx = none ∨ (hi ≠ none ∧ ∃ kd, mx = some (.int kd m))) (hstr : mx = none ∨ sh ≠ .str)
    (hr : aSlice sh h ax (some l) (some m) (some m) = some r) :
    ∃ v, RepT w (inM M0 ρ h) ρ h r v ∧ (Instr.sliceAt t vx lo hi mx).run P w = .ok v w := by
  unfold aSlice at hr
  rw [hk] at hr
  simp only at hr
  split at hr
  · rename_i hc
    obtain ⟨h0, h1, h2, _⟩ := hc
    have hso : ∀ {e sz by_ z ek}, ShOK P t (.slice e sz by_ z ek) → (sizeOf e).run P w = .ok sz w := fun hs => by
      obtain ⟨_, _, _, _, ti, zv, hi, hsz, _⟩ := hs
      simp [sizeOf, typeInfo, hi, hsz]
    split at hr
    · rename_i e sz by_ z ek xs
      split at hr
      · rename_i hun
        cases hr
        have hx : Rep w (inM M0 ρ h) (.lst xs) vx := hx
        cases hx with
        | lst _ ad c sz' b off f g1 g2 g3 g4 g5 =>
          have hkx : k = xs.length := by simpa [lenAV] using hk.symm
          subst hkx
          obtain ⟨c', q1, q2, q3⟩ := run_slice_gen (w := w) (ad := ad) hsh.1 (hso hsh) hlo hhi hmx h0 h1 (by omega : m ≤ (c : Int))
          have hln : ((xs.take m.toNat).drop l.toNat).length = (m - l).toNat := by simp; omega
          refine ⟨_, RepT.of_rep ?_, q3⟩
          rw [← hln]
          refine .lst _ _ _ sz' b (off + l.toNat * sz') (fun j => f (l.toNat * sz' + j)) (by omega) (uni_drop _ (uni_take _ g2)) (fun hp => ?_) (fun j y hy => ?_) (fun j y hy => ?_)
          · obtain ⟨rfl, g6, g7⟩ := g3 (by omega)
            refine ⟨?_, g6, g7⟩
            rw [if_neg (by omega)]
            simp only [Option.map_some, add_zero_spot]
            rcases hun with h00 | hun
            · subst h00; simp
            · have : sz' = sz := by
                have hx0 : 0 < xs.length := by omega
                have e1 := g2 xs[0] (List.getElem_mem hx0)
                have e2 := uni_of_uniB hun xs[0] (List.getElem_mem hx0)
                omega
              rw [this]
          · rw [flat_drop _ (uni_take _ g2), flat_take _ g2, List.getElem?_drop, List.getElem?_take] at hy
            split at hy
            · rw [Nat.add_assoc]
              exact g4 _ y hy
            · cases hy
          · rw [flat_drop _ (uni_take _ g2), flat_take _ g2, List.getElem?_drop, List.getElem?_take] at hy
            split at hy
            · exact g5 _ y hy
            · cases hy
      · cases hr
    · rename_i e sz by_ z ek id off len
      split at hr
      · rename_i hun
        cases hr
        have hkx : k = len := by simpa [lenAV] using hk.symm
        subst hkx
        obtain ⟨b, hb, hle, ad, c, rfl, hlc, hat⟩ := hx
        have hsz : b.sz = sz := by simpa [hb] using hun
        obtain ⟨c', q1, q2, q3⟩ := run_slice_gen (w := w) (ad := ad) hsh.1 (hso hsh) hlo hhi hmx h0 h1 (by omega : m ≤ (c : Int))
        refine ⟨_, ⟨b, hb, by omega, _, _, rfl, by omega, fun hp => ?_⟩, q3⟩
        obtain ⟨g, n', cap, hv, rfl⟩ := hat (by omega)
        refine ⟨g, n', cap, hv, ?_⟩
        rw [if_neg (by omega)]
        simp only [Option.map_some, add_zero_spot]
        rw [hsz, Nat.add_mul]
      · cases hr
    · rename_i e sz by_ z ek id
      split at hr
      · rename_i hun
        cases hr
        obtain ⟨b, hb, rfl⟩ := hx
        have hkx : k = b.xs.length := by simpa [lenAV, hb] using hk.symm
        subst hkx
        have hsz : b.sz = sz := by simpa [hb] using hun
        obtain ⟨_, _, vs, hown, _⟩ := hh.own id b hb
        rcases hown.2 with ⟨hv, hn0⟩ | ⟨g, cap, cur, hv, _, _, hle, _⟩
        · rw [hv]
          have hb0 : (b.xs.length : Int) = ((0 : Nat) : Int) := by omega
          rw [hb0] at hhi
          obtain ⟨c', q1, q2, q3⟩ := run_slice_gen (w := w) (ad := none) (len := 0) (cap := 0) hsh.1 (hso hsh) hlo hhi hmx h0 h1 (by omega)
          exact ⟨_, ⟨b, hb, by omega, _, _, rfl, by omega, fun hp => by omega⟩, q3⟩
        · rw [hv]
          obtain ⟨c', q1, q2, q3⟩ := run_slice_gen (w := w) (ad := some ⟨g, 0, none⟩) hsh.1 (hso hsh) hlo hhi hmx h0 h1 (by omega : m ≤ (cap : Int))
          refine ⟨_, ⟨b, hb, by omega, _, _, rfl, by omega, fun hp => ⟨g, _, cap, hv, ?_⟩⟩, q3⟩
          rw [if_neg (by omega)]
          simp only [Option.map_some, add_zero_spot]
          rw [hsz, Nat.zero_add]
      · cases hr
    · cases hr
      obtain rfl := hx.val_eq
      rename_i s'
      have hkx : k = s'.size := by simpa [lenAV] using hk.symm
      subst hkx
      rcases hstr with rfl | hne
      · exact ⟨_, RepT.of_rep (.val _), run_slice_str hsh.1 hlo hhi h0 h1 h2⟩
      · exact absurd rfl hne
    · cases hr
  · cases hr

end
end Go.Abs
