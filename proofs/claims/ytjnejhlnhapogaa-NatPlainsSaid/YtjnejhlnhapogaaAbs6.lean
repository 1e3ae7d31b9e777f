/- Stores, cuts, rows that are made. -/
import Derived.Test.YtjnejhlnhapogaaAbs5
namespace Go.Abs
open Go Go.RowKit
set_option linter.unusedVariables false
set_option linter.unusedSimpArgs false

section
variable {P : Program} {n : Nat} {M0 : Nat → Prop} {w0 : Bs} {ρ : Nat → Value} {σ σ' : St} {a : Act} {w : World} {o : Oper} {Q : Exit → Act → World → Prop}

theorem inM_upd {h : Hp} {id : Nat} {b b' : Buf} (hb : h id = some b) (k : Nat) : inM M0 ρ (upd h id (some b')) k ↔ inM M0 ρ h k := by
  unfold inM
  constructor
  · rintro (h1 | ⟨i, bf, h1, h2⟩)
    · exact .inl h1
    · by_cases hi : i = id
      · subst hi; exact .inr ⟨i, b, hb, h2⟩
      · rw [upd_ne _ _ hi] at h1; exact .inr ⟨i, bf, h1, h2⟩
  · rintro (h1 | ⟨i, bf, h1, h2⟩)
    · exact .inl h1
    · by_cases hi : i = id
      · subst hi; exact .inr ⟨i, b', upd_same _ _ _, h2⟩
      · exact .inr ⟨i, bf, by rw [upd_ne _ _ hi]; exact h1, h2⟩

/-- An own row is written. -/
theorem SimH.write {h : Hp} {id : Nat} {b b' : Buf} {w' : World} {vs' : List Value} (hs : SimH M0 w0 ρ h w) (hb : h id = some b) (hg : w.grownBy w' (ρ id).ownBlock)
    (hsz : b'.sz = b.sz) (hhdr : b'.hdr = b.hdr) (hu : uni b'.sz b'.xs) (hown : w'.ownsRow w0.base b'.e b'.sz (ρ id) b'.xs.length vs') (hR : RepL w (inM M0 ρ h) (flat b'.xs) vs') :
    SimH M0 w0 ρ (upd h id (some b')) w' ∧ (∀ k, k < w.heap.size → ¬ inM M0 ρ h k → w'.heap[k]? = w.heap[k]?) := by
  have hB := hs.own id b hb
  have hk : ∀ k, k < w.heap.size → ¬ inM M0 ρ h k → w'.heap[k]? = w.heap[k]? := fun k hk hm => hg.block k hk (fun e => hm (.inr ⟨id, b, hb, e.symm⟩))
  have hM : ∀ k, k < w.heap.size → inM M0 ρ (upd h id (some b')) k → inM M0 ρ h k := fun k _ hm => (inM_upd hb k).1 hm
  refine ⟨⟨hs.below.grown hg (fun k hk => hs.off id b k hb hk), fun i bi k hi hki => ?_, fun i bi u hi hu' => ?_, hs.m0, fun i bi hi => ?_, fun i j bi bj k hij hi hj hki hkj => ?_⟩, hk⟩
  · by_cases hid : i = id
    · subst hid; exact hs.off i b k hb hki
    · rw [upd_ne _ _ hid] at hi; exact hs.off i bi k hi hki
  · by_cases hid : i = id
    · subst hid
      rw [upd_same] at hi
      cases hi
      exact hs.hdr i b u hb (by rw [← hhdr]; exact hu')
    · rw [upd_ne _ _ hid] at hi; exact hs.hdr i bi u hi hu'
  · by_cases hid : i = id
    · subst hid
      rw [upd_same] at hi
      cases hi
      exact ⟨hu, by rw [hsz]; exact hB.2.1, vs', hown, hR.keep hg.size hk hM⟩
    · rw [upd_ne _ _ hid] at hi
      refine (hs.own i bi hi).keep (.inr ⟨_, hg, ?_⟩) hk hM
      cases hv : (ρ i).ownBlock with
      | none => exact .inl rfl
      | some g => exact .inr (fun e => hs.apart i id bi b g hid hi hb hv e.symm)
  · have get : ∀ i bi, upd h id (some b') i = some bi → ∃ b0, h i = some b0 := by
      intro i bi hi
      by_cases hid : i = id
      · subst hid; exact ⟨b, hb⟩
      · rw [upd_ne _ _ hid] at hi; exact ⟨bi, hi⟩
    obtain ⟨b1, h1⟩ := get i bi hi
    obtain ⟨b2, h2⟩ := get j bj hj
    exact hs.apart i j b1 b2 k hij h1 h2 hki hkj

theorem RepT.write {h : Hp} {id : Nat} {b b' : Buf} {w' : World} (hb : h id = some b) (hs : w.heap.size ≤ w'.heap.size) (hsz : b'.sz = b.sz) (hl : b.xs.length ≤ b'.xs.length)
    (hk : ∀ k, k < w.heap.size → ¬ inM M0 ρ h k → w'.heap[k]? = w.heap[k]?) {x : AV} {v : Value} (hr : RepT w (inM M0 ρ h) ρ h x v) : RepT w' (inM M0 ρ (upd h id (some b'))) ρ (upd h id (some b')) x v :=
  hr.keep hs hk (fun k _ hm => (inM_upd hb k).1 hm) (fun i bi _ hi => by
    by_cases hid : i = id
    · subst hid
      rw [hb] at hi
      cases hi
      exact ⟨b', upd_same _ _ _, rfl, hsz, hl⟩
    · exact ⟨bi, by rw [upd_ne _ _ hid]; exact hi, rfl, rfl, Nat.le_refl _⟩)

theorem ownsRow_setCells {base : Nat} {e : TypeId} {size g m cap : Nat} : ∀ (us : List Value) (j : Nat) (w : World) (vs : List Value), j + us.length ≤ vs.length →
    w.ownsRow base e size (.slice (some ⟨g, 0, none⟩) m cap) m vs →
    ∃ vs', (w.setCells g j us).ownsRow base e size (.slice (some ⟨g, 0, none⟩) m cap) m vs' ∧ w.grownBy (w.setCells g j us) (some g) ∧ vs'.length = vs.length ∧
      ∀ k, vs'[k]? = if j ≤ k ∧ k < j + us.length then us[k - j]? else vs[k]?
  | [], j, w, vs, _, h => ⟨vs, h, ⟨rfl, rfl, rfl, Nat.le_refl _, fun _ _ _ => rfl⟩, rfl, fun k => by rw [if_neg (by simp)]⟩
  | u :: us, j, w, vs, hl, h => by
    simp only [List.length_cons] at hl
    obtain ⟨h1, h2⟩ := h.stored j u
    obtain ⟨vs', h3, h4, h5, h6⟩ := ownsRow_setCells us (j + 1) _ (vs.set j u) (by simp; omega) h1
    refine ⟨vs', h3, h2.trans h4, by simpa using h5, fun k => ?_⟩
    rw [h6 k]
    by_cases hk : j + 1 ≤ k ∧ k < j + 1 + us.length
    · rw [if_pos hk, if_pos (by simp; omega)]
      rw [show k - j = (k - (j + 1)) + 1 by omega]
      simp
    · rw [if_neg hk]
      by_cases hkj : k = j
      · subst hkj
        rw [if_pos (by simp)]
        simp [List.getElem?_set]
        omega
      · rw [if_neg (by simp; omega), List.getElem?_set, if_neg (Ne.symm hkj)]

theorem flat_set {sz : Nat} : ∀ {xs : List AV} {i : Nat} {v : AV} {k : Nat}, uni sz xs → i < xs.length → (cellsOf v).length = sz →
    (flat (xs.set i v))[k]? = if i * sz ≤ k ∧ k < i * sz + sz then (cellsOf v)[k - i * sz]? else (flat xs)[k]?
  | x :: xs, 0, v, k, hu, _, hv => by
    have hx := hu x (by simp)
    simp only [List.set_cons_zero, flat, Nat.zero_mul, Nat.zero_le, true_and, Nat.zero_add, Nat.sub_zero]
    by_cases hk : k < sz
    · rw [if_pos hk, List.getElem?_append_left (by omega)]
    · rw [if_neg hk, List.getElem?_append_right (by omega), List.getElem?_append_right (by omega), hv, hx]
  | x :: xs, i + 1, v, k, hu, hi, hv => by
    have hx := hu x (by simp)
    have ih := fun k => flat_set (xs := xs) (i := i) (v := v) (k := k) (fun y hy => hu y (by simp [hy])) (by simpa using hi) hv
    simp only [List.set_cons_succ, flat]
    have e : (i + 1) * sz = i * sz + sz := by rw [Nat.add_mul]; omega
    by_cases hk : k < sz
    · rw [List.getElem?_append_left (by omega), List.getElem?_append_left (by omega), if_neg (by omega)]
    · rw [List.getElem?_append_right (by omega), List.getElem?_append_right (by omega), hx, ih]
      by_cases h2 : i * sz ≤ k - sz ∧ k - sz < i * sz + sz
      · rw [if_pos h2, if_pos (by omega)]
        congr 1
        omega
      · rw [if_neg h2, if_neg (by omega)]

theorem uni_set {sz : Nat} {xs : List AV} {i : Nat} {v : AV} (hu : uni sz xs) (hv : (cellsOf v).length = sz) : uni sz (xs.set i v) := by
  intro x hx
  rcases List.mem_or_eq_of_mem_set hx with h | h
  · exact hu x h
  · subst h; exact hv

/-- What comes of a store into an own row. -/
theorem run_store_own {t : TypeId} {h : Hp} {id i : Nat} {b : Buf} {v : AV} {u : Value} {cells : List Value} {g m cap : Nat} (hh : SimH M0 w0 ρ h w) (hb : h id = some b)
    (hv : ρ id = .slice (some ⟨g, 0, none⟩) m cap) (hi : i < b.xs.length) (hcl : cells = u.cells.toList) (hR : RepL w (inM M0 ρ h) (cellsOf v) cells) (h1 : ∀ c ∈ cells, c.oneCell' = true) (hl : (cellsOf v).length = b.sz)
    (hrun : ∀ w : World, (∀ j, j < cells.length → (w.cell? ⟨g, i * b.sz + j, none⟩).isSome = true) → (∀ j, j < cells.length → w.frozen? ⟨g, i * b.sz + j, none⟩ = false) →
      (Instr.storeAt t (.pointer (some ⟨g, i * b.sz, none⟩)) u).run P w = .ok () (w.setCells g (i * b.sz) cells)) :
    ∃ w', (Instr.storeAt t (.pointer (some ⟨g, i * b.sz, none⟩)) u).run P w = .ok () w' ∧ SimH M0 w0 ρ (upd h id (some { b with xs := b.xs.set i v })) w' ∧ w.heap.size ≤ w'.heap.size ∧
      (∀ k, k < w.heap.size → ¬ inM M0 ρ h k → w'.heap[k]? = w.heap[k]?) := by
  obtain ⟨g1, g2, vs, hown, hRv⟩ := hh.own id b hb
  rw [hv] at hown
  have hm : m = b.xs.length := by
    rcases hown.2 with ⟨h', _⟩ | ⟨_, _, _, h', _⟩ <;> cases h'
    rfl
  subst hm
  have hcl' : cells.length = b.sz := by rw [← hR.1]; exact hl
  have hle : i * b.sz + b.sz ≤ b.xs.length * b.sz := by
    have : (i + 1) * b.sz ≤ b.xs.length * b.sz := Nat.mul_le_mul_right _ hi
    rw [Nat.add_mul] at this
    omega
  have hvl : vs.length = b.xs.length * b.sz := hown.1
  have hr := hrun w (fun j hj => by
    rw [hown.cellAt _ (by omega)]
    simp; omega) (fun j hj => hown.frozenAt _)
  obtain ⟨vs', k1, k2, k3, k4⟩ := ownsRow_setCells cells (i * b.sz) w vs (by omega) hown
  have hg : w.grownBy (w.setCells g (i * b.sz) cells) (ρ id).ownBlock := by rw [hv]; exact k2
  have hW := SimH.write (b' := { b with xs := b.xs.set i v }) (vs' := vs') hh hb hg rfl rfl (uni_set g1 hl) (by rw [hv]; simpa using k1) ?_
  · exact ⟨_, hr, hW.1, k2.size, hW.2⟩
  · refine ⟨?_, fun k x y hx hy => ?_⟩
    · show (flat (b.xs.set i v)).length = vs'.length
      rw [flat_length (uni_set g1 hl), k3, hvl]
      simp
    · have hx : (flat (b.xs.set i v))[k]? = some x := hx
      rw [flat_set g1 hi hl] at hx
      rw [k4 k] at hy
      by_cases hk : i * b.sz ≤ k ∧ k < i * b.sz + b.sz
      · rw [if_pos hk] at hx
        rw [if_pos (by omega)] at hy
        exact hR.2 _ x y hx hy
      · rw [if_neg hk] at hx
        rw [if_neg (by omega)] at hy
        exact hRv.2 k x y hx hy

theorem run_aStore {t : TypeId} {sh : Sh} {h h' : Hp} {ap av : AV} {vp vv : Value} (hh : SimH M0 w0 ρ h w) (hsh : ShOK P t sh)
    (hp : RepT w (inM M0 ρ h) ρ h ap vp) (hv : RepT w (inM M0 ρ h) ρ h av vv) (hr : aStore sh h ap av = some h') :
    ∃ w', (Instr.storeAt t vp vv).run P w = .ok () w' ∧ SimH M0 w0 ρ h' w' ∧ (∀ x v, RepT w (inM M0 ρ h) ρ h x v → RepT w' (inM M0 ρ h') ρ h' x v) := by
  have fin : ∀ {id i : Nat} {b : Buf} {v : AV} {w' : World}, h id = some b → SimH M0 w0 ρ (upd h id (some { b with xs := b.xs.set i v })) w' → w.heap.size ≤ w'.heap.size → (∀ k, k < w.heap.size → ¬ inM M0 ρ h k → w'.heap[k]? = w.heap[k]?) →
      (∀ x u, RepT w (inM M0 ρ h) ρ h x u → RepT w' (inM M0 ρ (upd h id (some { b with xs := b.xs.set i v }))) ρ (upd h id (some { b with xs := b.xs.set i v })) x u) :=
    fun {id i b v w'} hb _ hs hk x u hx => RepT.write (b' := { b with xs := b.xs.set i v }) hb hs rfl (by simp) hk hx
  unfold aStore at hr
  split at hr
  · rename_i id i off
    split at hr
    · rename_i b hb
      obtain ⟨b', hb', hlt, g, n', cap, hρ, rfl⟩ := hp
      rw [hb] at hb'
      cases hb'
      split at hr
      · cases hr
      · rename_i fs sz z
        split at hr
        · rename_i hc
          obtain ⟨rfl, rfl, hl, hall, hna, _⟩ := hc
          cases hr
          have hnr : refId av = none := by cases av <;> first | rfl | (simp [notAgg] at hna)
          have hvr := RepT.rep hnr hv
          obtain ⟨hR, h1⟩ := hvr.cells hall
          obtain ⟨fields, ti, zv, hu, hi, hsz, _⟩ := hsh
          have hag : ∃ vs, vv = .agg vs := by cases hvr <;> simp [notAgg] at hna; exact ⟨_, rfl⟩
          obtain ⟨vs, rfl⟩ := hag
          have hvl : vs.size = b.sz := by rw [← hl, hR.1]; simp [Value.cells]
          obtain ⟨w', k1, k2, k3, k4⟩ := run_store_own (P := P) (t := t) (u := .agg vs) (v := av) (i := i) hh hb hρ hlt rfl hR h1 hl (fun w g1 g2 => by
            have := run_storeVar_mid (P := P) w g (i * b.sz) t vs (fun j hj => ⟨g1 j (by simpa [Value.cells] using hj), g2 j (by simpa [Value.cells] using hj)⟩) (by rw [hi]; simp [hsz, hvl]) (by
              rw [Array.all_eq_true_iff_forall_mem]
              intro x hx
              exact h1 x (by simpa [Value.cells] using hx))
            simpa [Instr.storeAt, Instr.sureAddr, Value.cells] using this)
          exact ⟨w', by rw [Nat.add_zero]; exact k1, k2, fin hb k2 k3 k4⟩
        · cases hr
      · rename_i g1 g2
        split at hr
        · rename_i hc
          obtain ⟨hsz, rfl, hna, hca, _, hna2⟩ := hc
          cases hr
          have hnr : refId av = none := by cases av <;> first | rfl | (simp [cellAV] at hca)
          have hcs : cellsOf av = [av] := by cases av <;> first | rfl | (simp [notAgg] at hna)
          have hvr := RepT.rep hnr hv
          obtain ⟨hR, h1⟩ := hvr.cells (by rw [hcs]; simpa using hca)
          obtain ⟨q1, q2⟩ := hsh.scalar (fun e => g1 e) (fun fs sz z e => g2 fs sz z e)
          have ho := hvr.oneCell hca
          have hvc : vv.cells = #[vv] := by cases vv <;> first | rfl | (simp [Value.oneCell'] at ho)
          have hsize : ∃ ti, P.info? t = some ti ∧ ti.size = 1 := by
            have : (P.info? t).map (·.size) = some 1 := by
              cases sh with
              | int k => exact hsh.2
              | bool => exact hsh.2
              | str => exact hsh.2
              | slice e sz by_ z ek => exact hsh.2.1
              | struct fs sz z => exact absurd rfl (g2 fs sz z)
              | other => exact absurd rfl g1
            obtain ⟨ti, h1, h2⟩ := Option.map_eq_some_iff.1 this
            exact ⟨ti, h1, h2⟩
          obtain ⟨ti, hti, hts⟩ := hsize
          obtain ⟨w', k1, k2, k3, k4⟩ := run_store_own (P := P) (t := t) (u := vv) (v := av) (i := i) hh hb hρ hlt rfl hR h1 (by rw [hcs, hsz]; rfl) (fun w g1 g2 => by
            have hh1 := run_storeCells_cells (P := P) g (i * b.sz) [vv] 0 w (fun j hj => by
              have : j = 0 := by simp at hj; exact hj
              subst this
              simpa using g1 0 (by rw [hvc]; simp)) (fun j hj => by
              have : j = 0 := by simp at hj; exact hj
              subst this
              simpa using g2 0 (by rw [hvc]; simp)) (by simpa using ho)
            simp only [Instr.storeAt, Instr.sureAddr, storeVar, sizeOf, typeInfo, Sem.run_bind, run_program, hti, hts, hvc, Result.andThen, Sem.run_pure]
            simpa using hh1)
          exact ⟨w', by rw [Nat.add_zero]; exact k1, k2, fin hb k2 k3 k4⟩
        · cases hr
    · cases hr
  · cases hr

end
end Go.Abs
