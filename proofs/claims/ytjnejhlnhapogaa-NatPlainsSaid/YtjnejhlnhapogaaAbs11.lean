/- Each operation keeps the abstract state. -/
import Derived.Test.YtjnejhlnhapogaaAbs10
namespace Go.Abs
open Go Go.RowKit
set_option linter.unusedVariables false
set_option linter.unusedSimpArgs false

section
variable {P : Program} {n : Nat} {M0 : Nat → Prop} {w0 : Bs} {ρ : Nat → Value} {σ σ' : St} {a : Act} {w : World} {o : Oper} {Q : Exit → Act → World → Prop} {Θ : TypeId → Sh} {Γ : FuncId → Spec}

theorem bound_is (hs : Sim n M0 w0 ρ σ a w) {x : Option Operand} {d k : Int} (h : bound? (ev σ) d x = some k) : BoundIs (x.map a.eval) d k := by
  cases x with
  | none => cases h; exact .inl ⟨rfl, rfl⟩
  | some x =>
    have h : intOf? (ev σ x) = some k := h
    unfold intOf? at h
    split at h
    · rename_i kd i he
      cases h
      exact .inr ⟨kd, by rw [Option.map_some, ev_val hs he]⟩
    · cases h

theorem same_value {x : AV} {v : Value} (hd : ∀ t, o.dst = some t → t < n) (hs : Sim n M0 w0 ρ σ a w) (hr : (execOp a.eval o).run P w = .ok (.value v) w) (hv : RepT w (inM M0 ρ σ.h) ρ σ.h x v) (he : σ.set o.dst x = σ') :
    o.wp P a w (After n M0 w0 σ') Q := by
  subst he
  exact wp_value hr ⟨ρ, hs.put_same hd hv⟩

theorem aAppend_sound {t u : TypeId} {s x : Operand} {c : Call} {d : Nat} (hΘ : ∀ t, ShOK P t (Θ t)) (hd : d < n) (hdst : o.dst = some d) (hs : Sim n M0 w0 ρ σ a w) (ho : o.op = .call c) (hc : c.callee = .builtin .append)
    (hat : c.argTypes.toList = [t, t]) (har : c.args.toList = [s, x]) (h : aAppend (Θ t) σ d (ev σ s) (ev σ x) = some σ') : o.wp P a w (After n M0 w0 σ') Q := by
  have hrun : ∀ v w', (Builtin.append_ #[t, t] o.type #[a.eval s, a.eval x]).run P w = .ok v w' → (execOp a.eval o).run P w = .ok (.value v) w' := by
    intro v w' hv
    have e1 : c.argTypes = #[t, t] := by apply Array.ext'; simpa using hat
    have e2 : c.args = #[s, x] := by apply Array.ext'; simpa using har
    unfold execOp
    rw [ho]
    simp [resolve, hc, e1, e2, invoke, builtin, hv, Result.andThen]
  unfold aAppend at h
  split at h
  · rename_i e sz by_ z ek ys hΘt hel
    have hsh := hΘ t
    rw [hΘt] at hsh
    have hxr := ev_rep hs x
    split at h
    · rename_i id hsid
      split at h
      · rename_i b hb
        split at h
        · rename_i hcnd
          obtain ⟨he, hsz, hys, hby, h63, _⟩ := hcnd
          cases h
          have hsr := ev_rep hs s
          rw [hsid] at hsr
          obtain ⟨b', hb', hval⟩ := hsr
          rw [hb] at hb'
          cases hb'
          obtain ⟨q1, q2, vs, q3, q4⟩ := hs.hp.own id b hb
          rw [he, hsz] at q3
          obtain ⟨v', w', news, k1, k2, k3, k4, k5⟩ := run_append_gen o.type hs.hp hsh hxr hel hys hby h63 q3
          have huni : uni sz (b.xs ++ ys) := fun y hy => by
            rcases List.mem_append.1 hy with hy | hy
            · rw [← hsz]; exact q1 y hy
            · have := List.all_eq_true.1 hys y hy
              simp only [elemOk, Bool.and_eq_true, beq_iff_eq] at this
              exact this.1.1.1
          obtain ⟨g1, g2⟩ := SimH.append (b' := ⟨e, sz, b.xs ++ ys, none⟩) (v' := v') (vs' := vs ++ news) hs.hp hb k3 k4 rfl huni (by rw [← hsz]; exact q2) (by simpa using k2) (by rw [flat_append]; exact q4.append k5)
          refine wp_value (hrun v' w' (by rw [hval]; exact k1)) ⟨upd ρ id v', ?_⟩
          have hs2 : Sim n M0 w0 ρ ⟨fun t => kill id (σ.t t), σ.h⟩ a w := ⟨hs.size, hs.defers, hs.hp, fun t => by
            show RepT w _ ρ _ (kill id (σ.t t)) _
            unfold kill
            split
            · exact RepT.of_rep (.top _)
            · exact hs.tm t⟩
          have := hs2.put (d := some d) (x := .own id) (v := v') (h' := upd σ.h id (some ⟨e, sz, b.xs ++ ys, none⟩)) (ρ' := upd ρ id v') (fun t ht => by cases ht; exact hd) g1
            (fun x u hx hex => by
              obtain ⟨t, rfl⟩ := hex
              refine g2 _ u ?_ hx
              show refId (kill id (σ.t t)) ≠ some id
              unfold kill
              split
              · simp [refId]
              · assumption) ⟨_, upd_same _ _ _, (upd_same _ _ _).symm⟩
          rw [hdst]
          exact this
        · cases h
      · cases h
    · rename_i hsn
      split at h
      · rename_i hcnd
        obtain ⟨hys, hby, h63, hn⟩ := hcnd
        cases h
        have hn' : σ.h d = none := by simpa using hn
        have hval : a.eval s = .slice none 0 0 := ev_val hs hsn
        obtain ⟨v', w', news, k1, k2, k3, k4, k5⟩ := run_append_gen (v := .slice none 0 0) (m := 0) (vs := []) o.type hs.hp hsh hxr hel hys (by simpa using hby) (by simpa using h63) (World.ownsRow_nil _ _ _ _)
        have hB : Below w.heap.size w w' := below_of_grown k3
        have hnew : ∀ k, v'.ownBlock = some k → w.heap.size ≤ k := fun k hk => by
          rcases k4 with k4 | k4
          · rw [k4] at hk; cases hk
          · rw [k4] at hk; cases hk; exact Nat.le_refl _
        have huni : uni sz ys := fun y hy => (by
          have := List.all_eq_true.1 hys y hy
          simp only [elemOk, Bool.and_eq_true, beq_iff_eq] at this
          exact this.1.1.1)
        have hO : OwnB w' (inM M0 (upd ρ d v') (upd σ.h d (some ⟨e, sz, ys, none⟩))) w0.base v' ⟨e, sz, ys, none⟩ :=
          ⟨huni, hsh.2.2.1, news, by simpa using k2, k5.keep hB.size (fun b hb _ => hB.block b hb) (fun k hk hm => (inM_upd_new hn' hm).resolve_right (fun hv => by have := hnew k hv; omega))⟩
        refine wp_value (hrun v' w' (by rw [hval]; exact k1)) ⟨upd ρ d v', ?_⟩
        have := hs.put (d := some d) (x := .own d) (v := v') (h' := upd σ.h d (some ⟨e, sz, ys, none⟩)) (ρ' := upd ρ d v') (fun t ht => by cases ht; exact hd) (hs.hp.fresh hB hn' rfl hnew hO) (fun x u hx _ => hx.fresh hB hn' hnew) ⟨_, upd_same _ _ _, (upd_same _ _ _).symm⟩
        rw [hdst]
        exact this
      · cases h
    · cases h
  · cases h

theorem intOf_val {x : AV} {k : Int} (h : intOf? x = some k) : ∃ kd, x = .val (.int kd k) := by
  unfold intOf? at h
  split at h
  · cases h; exact ⟨_, rfl⟩
  · cases h

/-- An operation that the abstract state can carry out. -/
theorem astep_sound (hΘ : ∀ t, ShOK P t (Θ t)) (hΓ : ∀ f, SpecOK P f (Γ f)) (hd : ∀ t, o.dst = some t → t < n) (hs : Sim n M0 w0 ρ σ a w) (h : astep Θ Γ o σ = some σ') : o.wp P a w (After n M0 w0 σ') Q := by
  unfold astep at h
  split at h
  · rename_i x ho
    cases h
    exact same_value hd hs (by unfold execOp; rw [ho]; rfl) (ev_rep hs x) rfl
  · rename_i x ho
    cases h
    exact same_value hd hs (by unfold execOp; rw [ho]; rfl) (ev_rep hs x) rfl
  · rename_i c x y ho
    split at h
    · rename_i b hc
      cases h
      have hcv := ev_val hs hc
      refine same_value (v := if b then a.eval x else a.eval y) hd hs (by unfold execOp; rw [ho]; simp [hcv, asBool, Result.andThen]) ?_ rfl
      cases b
      · exact ev_rep hs y
      · exact ev_rep hs x
    · cases h
  · rename_i op t x y yt ho
    obtain ⟨r, hr, rfl⟩ := Option.map_eq_some_iff.1 h
    obtain ⟨v, hv, hrun⟩ := run_aBin (P := P) (x := x) (y := y) (yt := yt) (hΘ t) (ev_rep hs x) (ev_rep hs y) hr
    refine same_value hd hs ?_ hv rfl
    unfold execOp
    rw [ho]
    simp only [Sem.run_bind, hrun, Result.andThen, Sem.run_pure]
  · rename_i op t x ho
    obtain ⟨r, hr, rfl⟩ := Option.map_eq_some_iff.1 h
    obtain ⟨v, hv, hrun⟩ := run_aUn (P := P) (ev_rep hs x) hr
    refine same_value hd hs ?_ hv rfl
    unfold execOp
    rw [ho]
    simp only [Sem.run_bind, hrun, Result.andThen, Sem.run_pure]
  · rename_i s t x ho
    obtain ⟨r, hr, rfl⟩ := Option.map_eq_some_iff.1 h
    obtain ⟨v, hv, hrun⟩ := run_aConv (P := P) hs.hp (hΘ s) (hΘ t) (ev_rep hs x) hr
    refine same_value hd hs ?_ hv rfl
    unfold execOp
    rw [ho]
    simp only [Sem.run_bind, hrun, Result.andThen, Sem.run_pure]
  · rename_i x i ho
    split at h
    · rename_i xs hx
      obtain ⟨r, hr, rfl⟩ := Option.map_eq_some_iff.1 h
      have hR := ev_rep hs x
      rw [hx] at hR
      have hR : Rep w (inM M0 ρ σ.h) (.tup xs) (a.eval x) := hR
      generalize hav : a.eval x = av at hR
      cases hR with
      | tup _ vs hl hc =>
        have hi : i < vs.size := by rw [← hl]; exact (List.getElem?_eq_some_iff.1 hr).1
        refine same_value hd hs (v := vs[i]) ?_ (RepT.of_rep (hc i r _ hr (by simp [hi]))) rfl
        unfold execOp
        rw [ho]
        simp [hav, Instr.extract, hi, Result.andThen]
    · cases h
  · rename_i t x i ho
    split at h
    · rename_i e sz by_ z ek k hΘt hi
      obtain ⟨r, hr, rfl⟩ := Option.map_eq_some_iff.1 h
      obtain ⟨kd, hiv⟩ := intOf_val hi
      have hsh := hΘ t
      rw [hΘt] at hsh
      obtain ⟨v, hv, hrun⟩ := run_aIndex (P := P) (k := kd) (i := k) hs.hp hsh (ev_rep hs x) hr
      refine same_value hd hs ?_ hv rfl
      unfold execOp
      rw [ho]
      simp only [ev_val hs hiv, Sem.run_bind, hrun, Result.andThen, Sem.run_pure]
    · cases h
  · rename_i t x i ho
    split at h
    · rename_i s k hΘt hx hi
      split at h
      · rename_i hc
        cases h
        obtain ⟨kd, hiv⟩ := intOf_val hi
        have hsh := hΘ t
        rw [hΘt] at hsh
        refine same_value hd hs (v := .int .u8 (s[k.toNat]'hc.2).toNat) ?_ (RepT.of_rep (.val _)) rfl
        unfold execOp
        rw [ho]
        simp [ev_val hs hiv, ev_val hs hx, Instr.index, asIntOf, run_underlying (show P.underlying t = some .string from hsh.1), Result.andThen, hc.1, hc.2]
      · cases h
    · cases h
  · rename_i t p ho
    obtain ⟨r, hr, rfl⟩ := Option.map_eq_some_iff.1 h
    obtain ⟨v, hv, hrun⟩ := run_aLoad (P := P) hs.hp (hΘ t) (ev_rep hs p) hr
    refine same_value hd hs ?_ (RepT.of_rep hv) rfl
    unfold execOp
    rw [ho]
    simp only [Sem.run_bind, hrun, Result.andThen, Sem.run_pure]
  · rename_i t p x ho
    obtain ⟨h', hr, rfl⟩ := Option.map_eq_some_iff.1 h
    obtain ⟨w', hrun, hH, hk⟩ := run_aStore (P := P) hs.hp (hΘ t) (ev_rep hs p) (ev_rep hs x) hr
    refine wp_skip' (w' := w') ?_ ⟨ρ, hs.put hd hH (fun x u hx _ => hk x u hx) (RepT.of_rep (.top _))⟩
    unfold execOp
    rw [ho]
    simp only [Sem.run_bind, hrun, Result.andThen, Sem.run_pure]
  · rename_i t x lo hi mx ho
    split at h
    · rename_i k hk
      split at h
      · rename_i l m hl hm
        split at h
        · rename_i hcm
          obtain ⟨hmx, hok⟩ := hcm
          obtain ⟨r, hr, rfl⟩ := Option.map_eq_some_iff.1 h
          have hm2 : mx.map a.eval = none ∨ (hi.map a.eval ≠ none ∧ ∃ kd, mx.map a.eval = some (.int kd m)) := by
            cases mx with
            | none => exact .inl rfl
            | some y =>
              refine .inr ⟨?_, ?_⟩
              · cases hi with
                | none => simp [maxOk] at hok
                | some z => simp
              · have hmx : intOf? (ev σ y) = some m := hmx
                obtain ⟨kd, hy⟩ := intOf_val hmx
                exact ⟨kd, by rw [Option.map_some, ev_val hs hy]⟩
          have hstr : mx.map a.eval = none ∨ Θ t ≠ .str := by
            cases mx with
            | none => exact .inl rfl
            | some y =>
              refine .inr (fun e => ?_)
              rw [e] at hok
              simp [maxOk] at hok
          obtain ⟨v, hv, hrun⟩ := run_aSlice (P := P) hs.hp (hΘ t) (ev_rep hs x) hk (bound_is hs hl) (bound_is hs hm) hm2 hstr hr
          refine same_value hd hs ?_ hv rfl
          unfold execOp
          rw [ho]
          simp only [Sem.run_bind, hrun, Result.andThen, Sem.run_pure]
        · cases h
      · cases h
    · cases h
  · rename_i t x y ho
    split at h
    · rename_i e sz by_ z ek kl i kc j d hΘt hx hy hdst
      split at h
      · rename_i hcnd
        obtain ⟨rfl, h0, hb, h63, hn⟩ := hcnd
        cases h
        have hsh := hΘ t
        rw [hΘt] at hsh
        have hn' : σ.h d = none := by simpa using hn
        obtain ⟨v, w', hrun, hH, hB, hnew⟩ := run_aMake (P := P) (kl := kl) (kc := kc) hs.hp hsh h0 hb h63 hn'
        refine wp_value (v := v) (w' := w') ?_ ⟨upd ρ d v, ?_⟩
        · unfold execOp
          rw [ho]
          simp only [ev_val hs hx, ev_val hs hy, Sem.run_bind, hrun, Result.andThen, Sem.run_pure]
        · have := hs.put (d := some d) (x := .own d) (v := v) (ρ' := upd ρ d v) (fun t ht => by cases ht; exact hd d hdst) hH (fun x u hx _ => hx.fresh hB hn' hnew) ⟨_, upd_same _ _ _, (upd_same _ _ _).symm⟩
          rw [hdst]
          exact this
      · cases h
    · cases h
  · rename_i t m ps ho
    split at h
    · rename_i e sz by_ z ek d hΘt hdst
      have hsh := hΘ t
      rw [hΘt] at hsh
      split at h
      · rename_i hm0
        split at h
        · rename_i hcnd
          obtain ⟨hps, hz100, hn⟩ := hcnd
          cases h
          subst hm0
          have hn' : σ.h d = none := by simpa using hn
          have hpe : ps = #[] := Array.eq_empty_of_size_eq_zero hps
          subst hpe
          obtain ⟨v, w', hrun, hB, _, hv0⟩ := run_aBuild (P := P) (m := 0) (ps := #[]) hs hsh rfl rfl (by omega) hz100 rfl
          obtain ⟨hv, hown⟩ := hv0 rfl
          have hnew : ∀ k, v.ownBlock = some k → w.heap.size ≤ k := fun k hk => by
            rw [hv] at hk
            simp [Value.ownBlock] at hk; omega
          have hO : OwnB w' (inM M0 (upd ρ d v) (upd σ.h d (some ⟨e, sz, [], none⟩))) w0.base v ⟨e, sz, [], none⟩ := ⟨fun x hx => by simp at hx, hsh.2.2.1, [], by simpa using hown, .nil⟩
          refine wp_value (v := v) (w' := w') ?_ ⟨upd ρ d v, ?_⟩
          · unfold execOp
            rw [ho]
            simp only [Sem.run_bind, hrun, Result.andThen, Sem.run_pure]
          · have := hs.put (d := some d) (x := .own d) (v := v) (ρ' := upd ρ d v) (fun t ht => by cases ht; exact hd d hdst) (hs.hp.fresh hB hn' rfl hnew hO) (fun x u hx _ => hx.fresh hB hn' hnew) ⟨_, upd_same _ _ _, (upd_same _ _ _).symm⟩
            rw [hdst]
            exact this
        · cases h
      · rename_i hm0
        split at h
        · rename_i hcnd
          obtain ⟨hidx, hps, hm, hz100, hel⟩ := hcnd
          cases h
          obtain ⟨v, w', hrun, hB, hR, _⟩ := run_aBuild (P := P) hs hsh hidx hps hm hz100 hel
          refine wp_value (v := v) (w' := w') ?_ ⟨ρ, ?_⟩
          · unfold execOp
            rw [ho]
            simp only [Sem.run_bind, hrun, Result.andThen, Sem.run_pure]
          · have := hs.put (d := o.dst) (x := .lst (ps.toList.map fun p => ev σ p.2)) (v := v) (h' := σ.h) (ρ' := ρ) hd (hs.hp.grow hB) (fun x u hx _ => hx.grow hB) (RepT.of_rep (hR (by omega)))
            rw [← St.set_h σ o.dst (.lst (ps.toList.map fun p => ev σ p.2))] at this
            exact this
        · cases h
    · cases h
  · rename_i c ho
    split at h
    · rename_i hcal
      split at h
      · rename_i t x hat har
        have e1 : c.argTypes = #[t] := by apply Array.ext'; simpa using hat
        have e2 : c.args = #[x] := by apply Array.ext'; simpa using har
        have run : ∀ v, (Builtin.len_ #[t] o.type #[a.eval x]).run P w = .ok v w → (execOp a.eval o).run P w = .ok (.value v) w := fun v hv => by
          unfold execOp
          rw [ho]
          simp [resolve, hcal, e1, e2, invoke, builtin, hv, Result.andThen]
        split at h
        · rename_i e sz by_ z ek hΘt
          have hsh := hΘ t
          rw [hΘt] at hsh
          split at h
          · cases h
          · rename_i hns
            obtain ⟨k, hk, rfl⟩ := Option.map_eq_some_iff.1 h
            rcases lenAV_len hs.hp (ev_rep hs x) hk with ⟨ad, l, c', hv, hl, _⟩ | ⟨s, hxs, _⟩
            · refine same_value (v := .int .i64 k) hd hs (run _ ?_) (RepT.of_rep (.val _)) rfl
              simp [hv, Builtin.len_, run_underlying hsh.1, Result.andThen, goInt, hl]
            · exact absurd hxs (hns s)
        · rename_i hΘt
          have hsh := hΘ t
          rw [hΘt] at hsh
          split at h
          · rename_i s hxs
            cases h
            refine same_value (v := .int .i64 s.size) hd hs (run _ ?_) (RepT.of_rep (.val _)) rfl
            simp [ev_val hs hxs, Builtin.len_, run_underlying (show P.underlying t = some .string from hsh.1), Result.andThen, goInt]
          · cases h
        · cases h
      · cases h
    · rename_i hcal
      split at h
      · rename_i t u s x d hat har hdst
        split at h
        · rename_i htu
          subst htu
          exact aAppend_sound (u := t) hΘ (hd d hdst) hdst hs ho hcal hat har h
        · cases h
      · cases h
    · rename_i hcal
      split at h
      · rename_i x y har
        have e2 : c.args = #[x, y] := by apply Array.ext'; simpa using har
        split at h
        · rename_i k i k' j hx hy
          cases h
          refine same_value (v := .int k (if j > i then j else i)) hd hs ?_ (RepT.of_rep (.val _)) rfl
          unfold execOp
          rw [ho]
          simp [resolve, hcal, e2, invoke, builtin, Builtin.max_, Builtin.max2, ev_val hs hx, ev_val hs hy, Result.andThen]
        · cases h
      · cases h
    · rename_i f hcal
      split at h
      · rename_i f' hf
        exact aCall_sound hΓ hd hs ho hcal hf h
      · cases h
    · cases h
  · cases h

end
end Go.Abs
