/- Each operation's run, and what it does to the abstract state. -/
import Derived.Test.YtjnejhlnhapogaaAbs3
namespace Go.Abs
open Go Go.RowKit
set_option linter.unusedVariables false
set_option linter.unusedSimpArgs false

section
variable {P : Program} {n : Nat} {M0 : Nat → Prop} {w0 : Bs} {ρ : Nat → Value} {σ σ' : St} {a : Act} {w : World} {o : Oper} {Q : Exit → Act → World → Prop}

theorem wp_value {v : Value} {w' : World} {K : Act → World → Prop} (h : (execOp a.eval o).run P w = .ok (.value v) w') (hK : K (a.put o.dst v) w') : o.wp P a w K Q := by
  unfold Oper.wp; rw [h]; exact hK
theorem wp_skip' {w' : World} {K : Act → World → Prop} (h : (execOp a.eval o).run P w = .ok .skip w') (hK : K (a.put o.dst undef) w') : o.wp P a w K Q := by
  unfold Oper.wp; rw [h]; exact hK

theorem ev_rep (hs : Sim n M0 w0 ρ σ a w) (x : Operand) : RepT w (inM M0 ρ σ.h) ρ σ.h (ev σ x) (a.eval x) := by
  cases x with
  | tmp t => exact hs.tm t
  | const v => exact RepT.of_rep (.val v)
  | global g => exact RepT.of_rep (.top _)
  | func f => exact RepT.of_rep (.val _)

theorem RepT.val_eq {M : Nat → Prop} {h : Hp} {u v : Value} (hr : RepT w M ρ h (.val u) v) : v = u := by
  have hr : Rep w M (.val u) v := hr
  cases hr; rfl
theorem ev_val (hs : Sim n M0 w0 ρ σ a w) {x : Operand} {v : Value} (h : ev σ x = .val v) : a.eval x = v := by
  have := ev_rep hs x
  rw [h] at this
  exact this.val_eq

/-- The abstract state behind an operation, some orders and rows being as they come. -/
def After (n : Nat) (M0 : Nat → Prop) (w0 : Bs) (σ : St) (a : Act) (w : World) : Prop := ∃ ρ, Sim n M0 w0 ρ σ a w

theorem step_same {x : AV} {v : Value} (hs : Sim n M0 w0 ρ σ a w) (hd : ∀ t, o.dst = some t → t < n) (hr : (execOp a.eval o).run P w = .ok (.value v) w)
    (hv : RepT w (inM M0 ρ σ.h) ρ σ.h x v) (he : some (σ.set o.dst x) = some σ') : o.wp P a w (After n M0 w0 σ') Q := by
  cases he
  exact wp_value hr ⟨ρ, hs.put_same hd hv⟩

theorem run_iBin {op : BinOp} {k k' : IntKind} {x y : Int} {r : AV} (t : TypeId) (h : iBin op k k' x y = some r) : ∃ v, r = .val v ∧ (binOp op t (.int k x) (.int k' y)).run P w = .ok v w := by
  cases op <;> simp only [iBin] at h
  case shl => 
    split at h
    · rename_i h0
      cases h
      exact ⟨_, rfl, by simp [binOp, Op.shift, show ¬ y < 0 by omega]⟩
    · cases h
  case shr => 
    split at h
    · rename_i h0
      cases h
      exact ⟨_, rfl, by simp [binOp, Op.shift, show ¬ y < 0 by omega]⟩
    · cases h
  case quo =>
    split at h
    · rename_i h0
      subst h0
      split at h
      · cases h
      · rename_i h1
        cases h
        exact ⟨_, rfl, by simp [binOp, Op.intDiv, h1]⟩
    · cases h
  case rem =>
    split at h
    · rename_i h0
      subst h0
      split at h
      · cases h
      · rename_i h1
        cases h
        exact ⟨_, rfl, by simp [binOp, Op.intDiv, h1]⟩
    · cases h
  all_goals
    split at h
    · rename_i h0
      subst h0
      cases h
      exact ⟨_, rfl, by simp [binOp, Op.intArith, Op.intBits, Op.intCmp, bitsOp]⟩
    · cases h

theorem run_sBin {op : BinOp} {x y : ByteArray} {r : AV} (t : TypeId) (h : sBin op x y = some r) : ∃ v, r = .val v ∧ (binOp op t (.string x) (.string y)).run P w = .ok v w := by
  cases op <;> simp only [sBin] at h
  case add =>
    split at h
    · rename_i h0
      cases h
      refine ⟨_, rfl, ?_⟩
      have : ¬ ((x.size + y.size : Nat) : Int) > IntKind.i64.max := by
        have : IntKind.i64.max = 9223372036854775807 := rfl
        omega
      simp only [binOp, Op.stringOp]
      rw [if_neg this]
      simp
    · cases h
  all_goals first
    | (cases h; done)
    | (cases h; exact ⟨_, rfl, by simp [binOp, Op.stringOp]⟩)

theorem run_eqGuard_int (op : BinOp) (t : TypeId) (x y : Operand) (k : IntKind) (i : Int) (v : Value) : (eqGuard op t x y (.int k i) v).run P w = .ok () w := by
  cases op <;> simp [eqGuard]
theorem run_eqGuard_str (op : BinOp) (t : TypeId) (x y : Operand) (s : ByteArray) (v : Value) : (eqGuard op t x y (.string s) v).run P w = .ok () w := by
  cases op <;> simp [eqGuard]
theorem run_eqGuard_bool (op : BinOp) (t : TypeId) (x y : Operand) (b : Bool) (v : Value) : (eqGuard op t x y (.bool b) v).run P w = .ok () w := by
  cases op <;> simp [eqGuard]
theorem run_eqGuard_slice (op : BinOp) (t : TypeId) (x y : Operand) (b : Option Addr) (i j : Nat) (v : Value) : (eqGuard op t x y (.slice b i j) v).run P w = .ok () w := by
  cases op <;> simp [eqGuard]

theorem run_equalIn_bool {t : TypeId} (hu : P.underlying t = some .bool) (d : Nat) (x y : Bool) : (Op.equalIn (d + 1) t (.bool x) (.bool y)).run P w = .ok (x == y) w := by
  simp [Op.equalIn, run_underlying hu]
theorem run_equalIn_slice {t e : TypeId} (hu : P.underlying t = some (.slice e)) (d : Nat) (ad : Option Addr) (i j : Nat) : (Op.equalIn (d + 1) t (.slice ad i j) (.slice none 0 0)).run P w = .ok ad.isNone w := by
  cases ad <;> simp [Op.equalIn, run_underlying hu]
theorem run_eq_bool {t : TypeId} (hu : P.underlying t = some .bool) (x y : Bool) : (binOp .eql t (.bool x) (.bool y)).run P w = .ok (.bool (x == y)) w := by
  have h := run_equalIn_bool (P := P) (w := w) hu 9999 x y
  show (do pure (.bool (← Op.equalIn (9999 + 1) t (.bool x) (.bool y))) : Sem Value).run P w = _
  simp only [Sem.run_bind, h, Result.andThen, Sem.run_pure]
theorem run_neq_bool {t : TypeId} (hu : P.underlying t = some .bool) (x y : Bool) : (binOp .neq t (.bool x) (.bool y)).run P w = .ok (.bool (!(x == y))) w := by
  have h := run_equalIn_bool (P := P) (w := w) hu 9999 x y
  show (do pure (.bool (!(← Op.equalIn (9999 + 1) t (.bool x) (.bool y)))) : Sem Value).run P w = _
  simp only [Sem.run_bind, h, Result.andThen, Sem.run_pure]
theorem run_eq_slice {t e : TypeId} (hu : P.underlying t = some (.slice e)) (ad : Option Addr) (i j : Nat) : (binOp .eql t (.slice ad i j) (.slice none 0 0)).run P w = .ok (.bool ad.isNone) w := by
  have h := run_equalIn_slice (P := P) (w := w) hu 9999 ad i j
  show (do pure (.bool (← Op.equalIn (9999 + 1) t (.slice ad i j) (.slice none 0 0))) : Sem Value).run P w = _
  simp only [Sem.run_bind, h, Result.andThen, Sem.run_pure]
theorem run_neq_slice {t e : TypeId} (hu : P.underlying t = some (.slice e)) (ad : Option Addr) (i j : Nat) : (binOp .neq t (.slice ad i j) (.slice none 0 0)).run P w = .ok (.bool (!ad.isNone)) w := by
  have h := run_equalIn_slice (P := P) (w := w) hu 9999 ad i j
  show (do pure (.bool (!(← Op.equalIn (9999 + 1) t (.slice ad i j) (.slice none 0 0)))) : Sem Value).run P w = _
  simp only [Sem.run_bind, h, Result.andThen, Sem.run_pure]

theorem run_aBin {op : BinOp} {sh : Sh} {t yt : TypeId} {x y : Operand} {ax ay r : AV} {vx vy : Value} {M : Nat → Prop} {h : Hp} (hsh : ShOK P t sh)
    (hx : RepT w M ρ h ax vx) (hy : RepT w M ρ h ay vy) (hr : aBin op sh ax ay = some r) :
    ∃ v, RepT w M ρ h r v ∧ (do eqGuard op t x y vx vy; binOp op t vx vy : Sem Value).run P w = .ok v w := by
  unfold aBin at hr
  split at hr
  · rename_i k i k' j
    obtain rfl := hx.val_eq
    obtain rfl := hy.val_eq
    obtain ⟨v, rfl, h1⟩ := run_iBin (P := P) (w := w) t hr
    exact ⟨v, RepT.of_rep (.val v), by simp [run_eqGuard_int, h1, Result.andThen]⟩
  · obtain rfl := hx.val_eq
    obtain rfl := hy.val_eq
    obtain ⟨v, rfl, h1⟩ := run_sBin (P := P) (w := w) t hr
    exact ⟨v, RepT.of_rep (.val v), by simp [run_eqGuard_str, h1, Result.andThen]⟩
  · obtain rfl := hx.val_eq
    obtain rfl := hy.val_eq
    split at hr
    · cases hr
      exact ⟨_, RepT.of_rep (.val _), by simp only [Sem.run_bind, run_eqGuard_bool, Result.andThen, run_eq_bool hsh.1]⟩
    · cases hr
      exact ⟨_, RepT.of_rep (.val _), by simp only [Sem.run_bind, run_eqGuard_bool, Result.andThen, run_neq_bool hsh.1]⟩
    · cases hr
  · rename_i xs
    obtain rfl := hy.val_eq
    have hx : Rep w M (.lst xs) vx := hx
    cases hx with
    | lst _ ad c sz b o f g1 g2 g3 =>
      have hne : xs.isEmpty = false → ad.isNone = false := fun he => by
        have h0 : 0 < xs.length := by cases xs with
          | nil => simp at he
          | cons _ _ => simp
        rw [(g3 h0).1]; rfl
      split at hr
      · split at hr
        · cases hr
          exact ⟨_, RepT.of_rep (.anyb ad.isNone), by simp only [Sem.run_bind, run_eqGuard_slice, Result.andThen, run_eq_slice hsh.1]⟩
        · rename_i he
          cases hr
          exact ⟨.bool false, RepT.of_rep (.val _), by simp only [Sem.run_bind, run_eqGuard_slice, Result.andThen, run_eq_slice hsh.1, hne (by simpa using he)]⟩
      · split at hr
        · cases hr
          exact ⟨_, RepT.of_rep (.anyb (!ad.isNone)), by simp only [Sem.run_bind, run_eqGuard_slice, Result.andThen, run_neq_slice hsh.1]⟩
        · rename_i he
          cases hr
          exact ⟨.bool true, RepT.of_rep (.val _), by simp only [Sem.run_bind, run_eqGuard_slice, Result.andThen, run_neq_slice hsh.1, hne (by simpa using he)]; rfl⟩
      · cases hr
  · cases hr

theorem run_aUn {op : UnOp} {ax r : AV} {vx : Value} {M : Nat → Prop} {h : Hp} (hx : RepT w M ρ h ax vx) (hr : aUn op ax = some r) :
    ∃ v, RepT w M ρ h r v ∧ (Op.unary op vx).run P w = .ok v w := by
  unfold aUn at hr
  split at hr
  · obtain rfl := hx.val_eq
    cases hr
    exact ⟨_, RepT.of_rep (.val _), by simp [Op.unary]⟩
  · obtain rfl := hx.val_eq
    cases hr
    exact ⟨_, RepT.of_rep (.val _), by simp [Op.unary, Op.intArith]⟩
  · obtain rfl := hx.val_eq
    cases hr
    exact ⟨_, RepT.of_rep (.val _), by simp [Op.unary, Op.intBits, bitsOp]⟩
  · cases hr

/-- A slice's value, as a row that is read. -/
theorem elems_rep {M0 : Nat → Prop} {h : Hp} (hh : SimH M0 w0 ρ h w) {x : AV} {v : Value} {xs : List AV} (hr : RepT w (inM M0 ρ h) ρ h x v) (he : elems h x = some xs) :
    ∃ (ad : Option Addr) (c sz b o : Nat) (f : Nat → Value), v = .slice ad xs.length c ∧ xs.length ≤ c ∧ uni sz xs ∧ (0 < xs.length → ad = some ⟨b, o, none⟩ ∧ b < w.heap.size) ∧
      (∀ (j : Nat) y, (flat xs)[j]? = some y → w.cell? ⟨b, o + j, none⟩ = some (f j)) ∧ (∀ (j : Nat) y, (flat xs)[j]? = some y → Rep w (inM M0 ρ h) y (f j)) ∧
      (0 < xs.length → ∀ id, refId x ≠ some id → ∀ bf, h id = some bf → (ρ id).ownBlock ≠ some b) ∧ (refId x = none → 0 < xs.length → ¬ inM M0 ρ h b) ∧ (∀ id, refId x = some id → 0 < xs.length → (ρ id).ownBlock = some b) := by
  unfold elems at he
  split at he
  · cases he
    have hr : Rep w (inM M0 ρ h) (.lst xs) v := hr
    cases hr with
    | lst _ ad c sz b o f h1 h2 h3 h4 h5 =>
      exact ⟨ad, c, sz, b, o, f, rfl, h1, h2, fun h0 => ⟨(h3 h0).1, (h3 h0).2.1⟩, h4, h5, fun h0 id _ bf hbf hc => (h3 h0).2.2 (.inr ⟨id, bf, hbf, hc⟩), fun _ h0 => (h3 h0).2.2, fun id hc => by simp [refId] at hc⟩
  · cases he
    obtain rfl := hr.val_eq
    exact ⟨none, 0, 1, 0, 0, fun _ => undef, rfl, Nat.le_refl _, fun x hx => by simp at hx, fun h => by simp at h, fun j y hy => by simp [flat] at hy, fun j y hy => by simp [flat] at hy, fun h => by simp at h, fun _ h => by simp at h, fun id hc => by simp [refId] at hc⟩
  · rename_i id
    obtain ⟨b, hb, rfl⟩ := hr
    simp [hb] at he
    subst he
    obtain ⟨h1, h2, vs, h3, h4⟩ := hh.own id b hb
    rcases h3.2 with ⟨hv, hn⟩ | ⟨g, cap, cur, hv, hg0, hg, hnc, hcm, hcs, htake⟩
    · have hx : b.xs = [] := List.eq_nil_of_length_eq_zero hn
      refine ⟨none, 0, b.sz, 0, 0, fun _ => undef, by rw [hv, hx]; rfl, by simp [hx], h1, fun h => by simp [hx] at h, fun j y hy => by simp [hx, flat] at hy, fun j y hy => by simp [hx, flat] at hy, fun h => by simp [hx] at h, fun _ h => by simp [hx] at h, fun _ _ h => by simp [hx] at h⟩
    · have hlt : g < w.heap.size := (Array.getElem?_eq_some_iff.1 hg).1
      refine ⟨some ⟨g, 0, none⟩, cap, b.sz, g, 0, fun j => vs.getD j undef, hv, hnc, h1, fun _ => ⟨rfl, hlt⟩, fun j y hy => ?_, fun j y hy => ?_, fun _ i hi bf hbf hc => ?_, fun hc => by simp [refId] at hc, fun i hi _ => by cases hi; rw [hv]; rfl⟩
      · obtain ⟨u, hu, _⟩ := h4.get hy
        have hj : j < b.xs.length * b.sz := by
          have := (List.getElem?_eq_some_iff.1 hu).1
          rw [h3.1] at this
          exact this
        have hc := World.ownsRow.cellAt (hv ▸ h3) j hj
        rw [Nat.zero_add, hc, hu]
        simp [List.getD_eq_getElem?_getD, hu]
      · obtain ⟨u, hu, hrep⟩ := h4.get hy
        simpa [List.getD_eq_getElem?_getD, hu] using hrep
      · exact hh.apart id i b bf g (fun e => hi (by rw [e]; rfl)) hb hbf (by rw [hv]; rfl) hc
  · rename_i id off len
    obtain ⟨b, hb, hle, ad, c, rfl, hlc, hat⟩ := hr
    simp [hb] at he
    subst he
    obtain ⟨h1, h2, vs, h3, h4⟩ := hh.own id b hb
    have hlen : ((b.xs.drop off).take len).length = len := by simp; omega
    rcases Nat.eq_zero_or_pos len with h0 | h0
    · subst h0
      refine ⟨ad, c, b.sz, 0, 0, fun _ => undef, by simp, by simp, uni_take _ (uni_drop _ h1), fun h => by simp at h, fun j y hy => by simp [flat] at hy, fun j y hy => by simp [flat] at hy, fun h => by simp at h, fun _ h => by simp at h, fun _ _ h => by simp at h⟩
    · obtain ⟨g, n', cap, hv, rfl⟩ := hat h0
      rcases h3.2 with ⟨hv', hn⟩ | ⟨g', cap', cur, hv', hg0, hg, hnc, hcm, hcs, htake⟩
      · rw [hv'] at hv; cases hv
      · rw [hv'] at hv
        cases hv
        have hlt : g < w.heap.size := (Array.getElem?_eq_some_iff.1 hg).1
        have hfl : ∀ (j : Nat) y, (flat ((b.xs.drop off).take len))[j]? = some y → (flat b.xs)[off * b.sz + j]? = some y := by
          intro j y hy
          rw [flat_take _ (uni_drop _ h1), flat_drop _ h1] at hy
          have hj := (List.getElem?_eq_some_iff.1 hy).1
          rw [List.getElem?_take] at hy
          split at hy
          · rwa [List.getElem?_drop] at hy
          · cases hy
        refine ⟨some ⟨g, off * b.sz, none⟩, c, b.sz, g, off * b.sz, fun j => vs.getD (off * b.sz + j) undef, by rw [hlen], by rw [hlen]; exact hlc, uni_take _ (uni_drop _ h1), fun _ => ⟨rfl, hlt⟩, fun j y hy => ?_, fun j y hy => ?_, fun _ i hi bf hbf hc => ?_, fun hc => by simp [refId] at hc, fun i hi _ => by cases hi; rw [hv']; rfl⟩
        · obtain ⟨u, hu, _⟩ := h4.get (hfl j y hy)
          have hj : off * b.sz + j < b.xs.length * b.sz := by
            have := (List.getElem?_eq_some_iff.1 hu).1
            rw [h3.1] at this
            exact this
          have hc := World.ownsRow.cellAt (hv' ▸ h3) (off * b.sz + j) hj
          rw [hc, hu]
          simp [List.getD_eq_getElem?_getD, hu]
        · obtain ⟨u, hu, hrep⟩ := h4.get (hfl j y hy)
          simpa [List.getD_eq_getElem?_getD, hu] using hrep
        · exact hh.apart id i b bf g (fun e => hi (by rw [e]; rfl)) hb hbf (by rw [hv']; rfl) hc
  · cases he

end
end Go.Abs
