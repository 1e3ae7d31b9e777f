/- Rows that are made and appended to. -/
import Derived.Test.YtjnejhlnhapogaaAbs7
namespace Go.Abs
open Go Go.RowKit
set_option linter.unusedVariables false
set_option linter.unusedSimpArgs false

section
variable {P : Program} {n : Nat} {M0 : Nat → Prop} {w0 : Bs} {ρ : Nat → Value} {σ σ' : St} {a : Act} {w : World} {o : Oper} {Q : Exit → Act → World → Prop}

theorem below_of_grown {w' : World} (hg : w.grownBy w' none) : Below w.heap.size w w' := ⟨hg.os, hg.tape, hg.output, hg.size, fun k hk => hg.block k hk (by simp)⟩

theorem flat_replicate {z : AV} {sz : Nat} (hz : (cellsOf z).length = sz) (h0 : 0 < sz) : ∀ (m k : Nat), (flat (List.replicate m z))[k]? = if k < m * sz then (cellsOf z)[k % sz]? else none
  | 0, k => by simp [flat]
  | m + 1, k => by
    have ih := flat_replicate hz h0 m
    simp only [List.replicate_succ, flat]
    have e : (m + 1) * sz = m * sz + sz := by rw [Nat.add_mul]; omega
    by_cases hk : k < sz
    · rw [List.getElem?_append_left (by omega), if_pos (by omega), Nat.mod_eq_of_lt hk]
    · rw [List.getElem?_append_right (by omega), ih, hz]
      have : k % sz = (k - sz) % sz := by rw [Nat.mod_eq_sub_mod (by omega)]
      rw [this]
      by_cases h2 : k - sz < m * sz
      · rw [if_pos h2, if_pos (by omega)]
      · rw [if_neg h2, if_neg (by omega)]

theorem uni_replicate {z : AV} {sz : Nat} (hz : (cellsOf z).length = sz) (m : Nat) : uni sz (List.replicate m z) := fun x hx => by
  rw [List.eq_of_mem_replicate hx]; exact hz

theorem run_aMake {t e : TypeId} {sz by_ : Nat} {z : AV} {ek : Option IntKind} {h : Hp} {d : Nat} {kl kc : IntKind} {m : Int} (hh : SimH M0 w0 ρ h w) (hsh : ShOK P t (.slice e sz by_ z ek))
    (h0 : 0 ≤ m) (hb : (by_ : Int) * m ≤ 281474976710656) (h63 : m ≤ 9223372036854775807) (hd : h d = none) :
    ∃ v w', (Instr.makeSlice t (.int kl m) (.int kc m)).run P w = .ok v w' ∧ SimH M0 w0 (upd ρ d v) (upd h d (some ⟨e, sz, List.replicate m.toNat z, none⟩)) w' ∧
      Below w.heap.size w w' ∧ (∀ k, v.ownBlock = some k → w.heap.size ≤ k) := by
  obtain ⟨hu, _, hpos, _, ti, zv, hi, hsz, hby, hz, hzs, hzl, hzR⟩ := hsh
  obtain ⟨m', rfl⟩ := Int.eq_ofNat_of_zero_le h0
  have hb' : ti.bytes * m' ≤ 281474976710656 := by
    rw [hby]
    have h := hb
    rw [← Int.natCast_mul] at h
    omega
  obtain ⟨w', k1, k2, k3⟩ := run_make_full (P := P) w w0.base t e ti zv sz hu hi hz hsz kl kc m' hb' (by unfold maxLen; omega) hh.below.base_le
  have hB := below_of_grown k3
  have hnew : ∀ k, (Value.slice (some ⟨w.heap.size, 0, none⟩) m' m').ownBlock = some k → w.heap.size ≤ k := fun k hk => by
    simp [Value.ownBlock] at hk; omega
  refine ⟨_, w', k1, SimH.fresh hh hB hd rfl hnew ⟨uni_replicate hzl _, hpos, _, by simpa using k2, ?_⟩, hB, hnew⟩
  have hR := hzR w' (inM M0 (upd ρ d (.slice (some ⟨w.heap.size, 0, none⟩) m' m')) (upd h d (some ⟨e, sz, List.replicate (m' : Int).toNat z, none⟩)))
  refine ⟨?_, fun k x v hx hv => ?_⟩
  · rw [flat_length (uni_replicate hzl _)]
    simp [madeCells]
  · have hx : (flat (List.replicate (m' : Int).toNat z))[k]? = some x := hx
    rw [flat_replicate hzl hpos] at hx
    split at hx
    · rename_i hk
      have hk' : k < m' * sz := by simpa using hk
      have hmod : k % sz < sz := Nat.mod_lt _ hpos
      refine hR.2 (k % sz) x v hx ?_
      simp [madeCells, hk'] at hv
      rw [← hv, hzs]
      rw [Array.getElem?_toList]
      simp [hzs, hmod]
    · cases hx

theorem run_append_gen {t e : TypeId} {sz by_ : Nat} {z : AV} {ek : Option IntKind} {h : Hp} {ax : AV} {vx v : Value} {ys : List AV} {vs : List Value} {m : Nat} (ty : TypeId) (hh : SimH M0 w0 ρ h w) (hsh : ShOK P t (.slice e sz by_ z ek))
    (hx : RepT w (inM M0 ρ h) ρ h ax vx) (he : elems h ax = some ys) (hys : ys.all (elemOk sz) = true) (hb : (m + ys.length) * by_ ≤ 140737488355328) (h63 : m + ys.length ≤ 9223372036854775807)
    (hown : w.ownsRow w0.base e sz v m vs) :
    ∃ v' w' news, (Builtin.append_ #[t, t] ty #[v, vx]).run P w = .ok v' w' ∧ w'.ownsRow w0.base e sz v' (m + ys.length) (vs ++ news) ∧ w.grownBy w' v.ownBlock ∧
      (v'.ownBlock = v.ownBlock ∨ v'.ownBlock = some w.heap.size) ∧ RepL w (inM M0 ρ h) (flat ys) news := by
  obtain ⟨hu, _, hpos, _, ti, zv, hi, hsz, hby, hz, hzs, hzl, hzR⟩ := hsh
  have huni : uni sz ys := fun y hy => by
    have := List.all_eq_true.1 hys y hy
    simp [elemOk] at this
    exact this.1.1.1
  obtain ⟨ad, c, sz', b, off, f, rfl, g1, g2, g3, g4, g5, _⟩ := elems_rep hh hx he
  have hfl : (flat ys).length = ys.length * sz := flat_length huni
  by_cases h0 : 0 < ys.length
  · obtain ⟨rfl, g6⟩ := g3 h0
    have hnl : ((List.range (ys.length * sz)).map f).length = ys.length * sz := by simp
    have hone : ∀ u ∈ (List.range (ys.length * sz)).map f, u.oneCell' = true := by
      intro u hu'
      obtain ⟨j, hj, rfl⟩ := List.mem_map.1 hu'
      have hj' : j < (flat ys).length := by rw [hfl]; exact List.mem_range.1 hj
      have hR := g5 j _ (List.getElem?_eq_getElem hj')
      refine hR.oneCell ?_
      have hall : ∀ (l : List AV), l.all (elemOk sz) = true → ∀ y ∈ flat l, cellAV y = true := by
        intro l
        induction l with
        | nil => intro _ y hy; simp [flat] at hy
        | cons x l ih =>
          intro hl y hy
          simp only [List.all_cons, Bool.and_eq_true] at hl
          simp only [flat, List.mem_append] at hy
          rcases hy with hy | hy
          · have := hl.1
            simp only [elemOk, Bool.and_eq_true] at this
            exact List.all_eq_true.1 this.1.1.2 y hy
          · exact ih hl.2 y hy
      exact hall ys hys _ (List.getElem_mem hj')
    obtain ⟨v', w', k1, k2, k3, _, k4⟩ := run_append_own_at (P := P) w w0.base t ty e ti zv sz by_ hu hi hz hsz hby hzs hpos v m vs hown ⟨b, off, none⟩ ys.length c ((List.range (ys.length * sz)).map f) hnl
      (fun j u hj => by
        have hj' : j < ys.length * sz := by have := (List.getElem?_eq_some_iff.1 hj).1; simpa using this
        simp [hj'] at hj
        subst hj
        rw [add_zero_spot]
        exact g4 j _ (List.getElem?_eq_getElem (by omega))) hone (by unfold maxLen; omega) hb hh.below.base_le
    refine ⟨v', w', _, k1, k2, k3, k4, by rw [hnl, hfl], fun j x u hx hu' => ?_⟩
    have hj' : j < ys.length * sz := by have := (List.getElem?_eq_some_iff.1 hx).1; omega
    simp [hj'] at hu'
    subst hu'
    exact g5 j x hx
  · have hy : ys = [] := List.eq_nil_of_length_eq_zero (by omega)
    subst hy
    cases ad with
    | none =>
      have hc : c = 0 ∨ True := .inr trivial
      have hr : (Builtin.append_ #[t, t] ty #[v, .slice none 0 c]).run P w = .ok v w := by
        rcases hown.2 with ⟨rfl, rfl⟩ | ⟨g, cap, cur, rfl, _, _, hnc, _⟩
        · simp [Builtin.append_, run_underlying hu, sizeOf, typeInfo, hi, Builtin.lenOf, Builtin.firstCells]
        · simp [Builtin.append_, run_underlying hu, sizeOf, typeInfo, hi, Builtin.lenOf, Builtin.firstCells, hnc, storeCells]
      exact ⟨v, w, [], hr, by simpa using hown, ⟨rfl, rfl, rfl, Nat.le_refl _, fun _ _ _ => rfl⟩, .inl rfl, .nil⟩
    | some ad =>
      obtain ⟨v', w', k1, k2, k3, _, k4⟩ := run_append_own_at (P := P) w w0.base t ty e ti zv sz by_ hu hi hz hsz hby hzs hpos v m vs hown ad 0 c [] (by simp)
        (fun j u hj => by simp at hj) (by simp) (by unfold maxLen; simp at h63; omega) (by simpa using hb) hh.below.base_le
      exact ⟨v', w', [], by simpa using k1, by simpa using k2, k3, k4, .nil⟩

/-- An own row is appended to. -/
theorem SimH.append {h : Hp} {id : Nat} {b b' : Buf} {w' : World} {v' : Value} {vs' : List Value} (hs : SimH M0 w0 ρ h w) (hb : h id = some b) (hg : w.grownBy w' (ρ id).ownBlock)
    (hv : v'.ownBlock = (ρ id).ownBlock ∨ v'.ownBlock = some w.heap.size) (hhdr : b'.hdr = none) (hu : uni b'.sz b'.xs) (h0 : 0 < b'.sz) (hown : w'.ownsRow w0.base b'.e b'.sz v' b'.xs.length vs') (hR : RepL w (inM M0 ρ h) (flat b'.xs) vs') :
    SimH M0 w0 (upd ρ id v') (upd h id (some b')) w' ∧
      (∀ x v, refId x ≠ some id → RepT w (inM M0 ρ h) ρ h x v → RepT w' (inM M0 (upd ρ id v') (upd h id (some b'))) (upd ρ id v') (upd h id (some b')) x v) := by
  have hB := hs.own id b hb
  have hk : ∀ k, k < w.heap.size → ¬ inM M0 ρ h k → w'.heap[k]? = w.heap[k]? := fun k hk hm => hg.block k hk (fun e => hm (.inr ⟨id, b, hb, e.symm⟩))
  have hM : ∀ k, k < w.heap.size → inM M0 (upd ρ id v') (upd h id (some b')) k → inM M0 ρ h k := by
    intro k hk' hm
    rcases hm with hm | ⟨i, bf, h1, h2⟩
    · exact .inl hm
    · by_cases hid : i = id
      · subst hid
        rw [upd_same] at h2
        rcases hv with hv | hv
        · exact .inr ⟨i, b, hb, by rw [← hv]; exact h2⟩
        · rw [hv] at h2; cases h2; omega
      · rw [upd_ne _ _ hid] at h1 h2
        exact .inr ⟨i, bf, h1, h2⟩
  refine ⟨⟨hs.below.grown hg (fun k hk => hs.off id b k hb hk), fun i bi k hi hki => ?_, fun i bi u hi hu' => ?_, hs.m0, fun i bi hi => ?_, fun i j bi bj k hij hi hj hki hkj => ?_⟩, fun x v hx hr => ?_⟩
  · by_cases hid : i = id
    · subst hid
      rw [upd_same] at hki
      rcases hv with hv | hv
      · exact hs.off i b k hb (by rw [← hv]; exact hki)
      · rw [hv] at hki
        cases hki
        have := hs.below.size
        exact fun hc => by omega
    · rw [upd_ne _ _ hid] at hi hki; exact hs.off i bi k hi hki
  · by_cases hid : i = id
    · subst hid
      rw [upd_same] at hi
      cases hi
      rw [hhdr] at hu'; cases hu'
    · rw [upd_ne _ _ hid] at hi ⊢; exact hs.hdr i bi u hi hu'
  · by_cases hid : i = id
    · subst hid
      rw [upd_same] at hi ⊢
      cases hi
      exact ⟨hu, h0, vs', hown, hR.keep hg.size hk hM⟩
    · rw [upd_ne _ _ hid] at hi ⊢
      refine (hs.own i bi hi).keep (.inr ⟨_, hg, ?_⟩) hk hM
      cases hv0 : (ρ i).ownBlock with
      | none => exact .inl rfl
      | some g => exact .inr (fun e => hs.apart i id bi b g hid hi hb hv0 e.symm)
  · have key : ∀ i bi k, i ≠ id → h i = some bi → (ρ i).ownBlock = some k → v'.ownBlock ≠ some k := by
      intro i bi k hid hi hki hvk
      rcases hv with hv | hv
      · exact hs.apart i id bi b k hid hi hb hki (by rw [← hv]; exact hvk)
      · have := (hs.own i bi hi).lt k hki
        rw [hv] at hvk
        cases hvk
        omega
    by_cases hid : i = id
    · subst hid
      rw [upd_same] at hki
      rw [upd_ne _ _ (Ne.symm hij)] at hj hkj
      exact key j bj k (Ne.symm hij) hj hkj hki
    · by_cases hjd : j = id
      · subst hjd
        rw [upd_same] at hkj
        rw [upd_ne _ _ hid] at hi hki
        exact key i bi k hid hi hki hkj
      · rw [upd_ne _ _ hid] at hi hki
        rw [upd_ne _ _ hjd] at hj hkj
        exact hs.apart i j bi bj k hij hi hj hki hkj
  · refine hr.keep hg.size hk hM (fun i bi hi hbi => ?_)
    have hid : i ≠ id := fun e => hx (by rw [hi, e])
    exact ⟨bi, by rw [upd_ne _ _ hid]; exact hbi, upd_ne _ _ hid, rfl, Nat.le_refl _⟩

end
end Go.Abs
