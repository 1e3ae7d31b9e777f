/- One operation, whole. -/
import Derived.Test.YtjnejhlnhapogaaAbs9
namespace Go.Abs
open Go Go.RowKit
set_option linter.unusedVariables false
set_option linter.unusedSimpArgs false

section
variable {P : Program} {n : Nat} {M0 : Nat → Prop} {w0 : Bs} {ρ : Nat → Value} {σ σ' : St} {a : Act} {w : World} {o : Oper} {Q : Exit → Act → World → Prop} {Θ : TypeId → Sh} {Γ : FuncId → Spec}

theorem St.eta (σ : St) : (⟨σ.t, σ.h⟩ : St) = σ := rfl
theorem St.set_h (σ : St) (d : Option Nat) (x : AV) : (σ.set d x).h = σ.h := by cases d <;> rfl

theorem repTL_args (hs : Sim n M0 w0 ρ σ a w) : ∀ (xs : List Operand), RepTL w (inM M0 ρ σ.h) ρ σ.h (xs.map (ev σ)) (xs.map a.eval)
  | [] => ⟨rfl, fun i x v h => by simp at h⟩
  | x :: xs => ⟨by simp, fun i y v hy hv => by
      cases i with
      | zero => simp at hy hv; subst hy; subst hv; exact ev_rep hs x
      | succ i => exact (repTL_args hs xs).2 i y v (by simpa using hy) (by simpa using hv)⟩

theorem fnOf_val {x : AV} {f : FuncId} (h : fnOf x = some f) : x = .val (.func (.func f) #[] #[]) := by
  unfold fnOf at h
  split at h
  · split at h
    · rename_i hc
      cases h
      obtain ⟨h1, h2⟩ := hc
      rw [Array.eq_empty_of_size_eq_zero h1, Array.eq_empty_of_size_eq_zero h2]
    · cases h
  · cases h

theorem aCall_sound {f : FuncId} {c : Call} {g : Operand} (hΓ : ∀ f, SpecOK P f (Γ f)) (hd : ∀ t, o.dst = some t → t < n) (hs : Sim n M0 w0 ρ σ a w) (ho : o.op = .call c) (hc : c.callee = .value g)
    (hf : fnOf (ev σ g) = some f) (h : aCall Γ σ o.dst f (c.args.toList.map (ev σ)) = some σ') : o.wp P a w (After n M0 w0 σ') Q := by
  have hg : a.eval g = .func (.func f) #[] #[] := ev_val hs (fnOf_val hf)
  have hSpec := hΓ f
  have enter : Enters P f → ∀ {R : Ending → World → Prop}, Calls P f (c.args.toList.map a.eval).toArray w R →
      (∀ e w', R e w' → ∃ v, e = .returned v ∧ After n M0 w0 σ' (a.put o.dst v) w') → o.wp P a w (After n M0 w0 σ') Q := by
    intro hE R hR hk
    unfold Oper.wp
    have : (execOp a.eval o).run P w = .ok (.enter f (c.args.toList.map a.eval).toArray) w := by
      unfold execOp
      rw [ho]
      exact run_call hE hc hg rfl
    rw [this, Oper.upon_enter]
    exact hR.mono fun e w' he => by
      obtain ⟨v, rfl, hA⟩ := hk e w' he
      exact hA
  unfold aCall at h
  split at h
  · cases h
  · rename_i sp hsp
    rw [hsp] at hSpec
    obtain ⟨hE, hP⟩ := hSpec
    split at h
    · rename_i r hr
      have hids : ∀ (i : Nat) x, (c.args.toList.map (ev σ))[i]? = some x → ∀ id, refId x = some id → id ∈ (c.args.toList.map (ev σ)).filterMap refId := fun i x hx id hid =>
        List.mem_filterMap.2 ⟨x, List.mem_of_getElem? hx, hid⟩
      have hRL : RepL w (inM M0 ρ (eraseAll ((c.args.toList.map (ev σ)).filterMap refId) σ.h)) ((c.args.toList.map (ev σ)).map (frz σ.h)) (c.args.toList.map a.eval) := by
        refine ⟨by simp, fun i y v hy hv => ?_⟩
        rw [List.getElem?_map] at hy
        obtain ⟨x, hx, rfl⟩ := Option.map_eq_some_iff.1 hy
        exact frz_rep hs.hp ((repTL_args hs _).2 i x v hx hv) (hids i x hx)
      have hEr := hs.hp.erase ((c.args.toList.map (ev σ)).filterMap refId)
      refine enter hE (hP _ _ _ _ r (fun b hb => inM_lt hEr hb) hRL hr) (fun e w' ⟨v, he, hv, hB⟩ => ⟨v, he, ?_⟩)
      split at h
      · rename_i hsc
        cases h
        have := hs.put (d := o.dst) (x := r) (v := v) (h' := σ.h) (ρ' := ρ) hd (hs.hp.grow hB) (fun x u hx _ => hx.grow hB) (RepT.of_rep (scalar_rep hsc hv))
        exact ⟨ρ, by rw [← St.set_h σ o.dst r] at this; exact this⟩
      · cases h
        have h1 := hEr.grow hB
        refine ⟨ρ, ?_⟩
        have hs2 : Sim n M0 w0 ρ ⟨fun t => killAll ((c.args.toList.map (ev σ)).filterMap refId) (σ.t t), eraseAll ((c.args.toList.map (ev σ)).filterMap refId) σ.h⟩ a w := by
          refine ⟨hs.size, hs.defers, hEr, fun t => ?_⟩
          have ht := hs.tm t
          show RepT w _ ρ _ (killAll _ (σ.t t)) _
          unfold killAll
          cases hid : refId (σ.t t) with
          | none => exact (RepT.of_rep ((RepT.rep hid ht).keep (Nat.le_refl _) (fun _ _ _ => rfl) (fun b _ hb => inM_erase hb)))
          | some id =>
            simp only
            split
            · exact RepT.of_rep (.top _)
            · rename_i hni
              refine ht.keep (Nat.le_refl _) (fun _ _ _ => rfl) (fun b _ hb => inM_erase hb) (fun i b hi hb => ⟨b, ?_, rfl, rfl, Nat.le_refl _⟩)
              rw [hid] at hi
              cases hi
              unfold eraseAll
              rw [if_neg hni]
              exact hb
        have := hs2.put (d := o.dst) (x := r) (v := v) (h' := eraseAll ((c.args.toList.map (ev σ)).filterMap refId) σ.h) (ρ' := ρ) hd h1 (fun x u hx _ => hx.grow hB) (RepT.of_rep hv)
        have e : ∀ (d : Option Nat) (t : Nat → AV) (h1 h2 : Hp), (St.set ⟨t, h1⟩ d r).t = (St.set ⟨t, h2⟩ d r).t := by intro d t h1 h2; cases d <;> rfl
        rw [e o.dst _ σ.h (eraseAll ((c.args.toList.map (ev σ)).filterMap refId) σ.h)]
        exact this
    · cases h
  · rename_i sp hsp
    rw [hsp] at hSpec
    obtain ⟨hE, hP⟩ := hSpec
    split at h
    · rename_i d b hdd hb
      split at h
      · rename_i hcnd
        obtain ⟨hn, hemp⟩ := hcnd
        cases h
        have hn' : σ.h d = none := by simpa using hn
        have hRL : RepL w (inM M0 ρ σ.h) ((c.args.toList.map (ev σ)).map (frz σ.h)) (c.args.toList.map a.eval) := by
          refine ⟨by simp, fun i y v hy hv => ?_⟩
          rw [List.getElem?_map] at hy
          obtain ⟨x, hx, rfl⟩ := Option.map_eq_some_iff.1 hy
          have := frz_rep (ids := []) hs.hp ((repTL_args hs _).2 i x v hx hv) (fun id hid => by
            have hmem : id ∈ (c.args.toList.map (ev σ)).filterMap refId := List.mem_filterMap.2 ⟨x, List.mem_of_getElem? hx, hid⟩
            rw [List.isEmpty_iff.1 hemp] at hmem
            exact hmem)
          have e : eraseAll [] σ.h = σ.h := by funext i; simp [eraseAll]
          rwa [e] at this
        refine enter hE (hP _ _ _ _ b (fun b hb => inM_lt hs.hp hb) hRL hb) (fun e w' ⟨v, he, hB, hnew, hO⟩ => ⟨v, he, ⟨upd ρ d v, ?_⟩⟩)
        have hM : ∀ k, inM M0 (upd ρ d v) (upd σ.h d (some ⟨b.e, b.sz, b.xs, none⟩)) k → inM M0 ρ σ.h k ∨ v.ownBlock = some k := fun k hk => inM_upd_new hn' hk
        have hO' : OwnB w' (inM M0 (upd ρ d v) (upd σ.h d (some ⟨b.e, b.sz, b.xs, none⟩))) w0.base v ⟨b.e, b.sz, b.xs, none⟩ := by
          obtain ⟨q1, q2, vs, q3, q4⟩ := hO
          refine ⟨q1, q2, vs, ⟨q3.1, ?_⟩, q4.keep (Nat.le_refl _) (fun _ _ _ => rfl) (fun k _ hk => hM k hk)⟩
          rcases q3.2 with q | ⟨g, cap, cur, e1, e2, e3⟩
          · exact .inl q
          · exact .inr ⟨g, cap, cur, e1, Nat.le_trans hs.hp.below.base_le e2, e3⟩
        have := hs.put (d := o.dst) (x := .own d) (v := v) (h' := upd σ.h d (some ⟨b.e, b.sz, b.xs, none⟩)) (ρ' := upd ρ d v) hd (hs.hp.fresh hB hn' rfl hnew hO') (fun x u hx _ => hx.fresh hB hn' hnew) ⟨_, upd_same _ _ _, (upd_same _ _ _).symm⟩
        rw [hdd] at this
        rw [hdd]
        exact this
      · cases h
    · cases h
  · rename_i sp hsp
    rw [hsp] at hSpec
    obtain ⟨hE, hP⟩ := hSpec
    split at h
    · rename_i r h' hr
      split at h
      · rename_i hrid
        cases h
        refine enter hE (hP M0 w0 ρ σ.h h' _ _ w r hs.hp (repTL_args hs _) hr) (fun e w' ⟨v, he, hH, hv, hsz, hblk, hids⟩ => ⟨v, he, ⟨ρ, ?_⟩⟩)
        have hM : ∀ b, b < w.heap.size → inM M0 ρ h' b → inM M0 ρ σ.h b := fun b _ hb => hb.imp id (fun ⟨i, bf, h1, h2⟩ => by
          cases hq : σ.h i with
          | none => have := (hids i).1.1 hq; rw [this] at h1; cases h1
          | some b0 => exact ⟨i, b0, hq, h2⟩)
        exact hs.put (d := o.dst) (x := r) (v := v) (h' := h') (ρ' := ρ) hd hH (fun x u hx _ => hx.keep hsz hblk hM (fun i b hi hb => by
          obtain ⟨b', k1, k2, k3⟩ := (hids i).2 b hb
          exact ⟨b', k1, rfl, k2, by omega⟩)) (RepT.of_rep hv)
      · cases h
    · cases h

end
end Go.Abs
