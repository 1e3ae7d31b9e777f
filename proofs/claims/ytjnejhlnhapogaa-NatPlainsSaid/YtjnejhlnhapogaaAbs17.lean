/- Functions that write into a row that they are handed. -/
import Derived.Test.YtjnejhlnhapogaaAbs16
namespace Go.Abs
open Go Go.RowKit Go.NatMath
set_option linter.unusedVariables false
set_option linter.unusedSimpArgs false

section
variable {P : Program} {n : Nat}

/-- What such a function does: by the rest of its arguments and what the part of the row holds, what it answers and what the part holds afterwards. -/
def spInpl (k : IntKind) (f : List AV → List Int → Option (AV × List Int)) : List AV → Hp → Option (AV × Hp)
  | .own id :: rest, h => (h id).bind fun b => (asInts k b.xs).bind fun L => (f rest L).bind fun p =>
      if p.2.length = L.length ∧ b.sz = 1 ∧ rest.all (fun x => (refId x).isNone) = true ∧ scalarAV p.1 = true then some (p.1, upd h id (some { b with xs := ints k p.2 })) else none
  | .ref id off len :: rest, h => (h id).bind fun b => (asInts k b.xs).bind fun L => (f rest ((L.drop off).take len)).bind fun p =>
      if off + len ≤ L.length ∧ p.2.length = len ∧ b.sz = 1 ∧ rest.all (fun x => (refId x).isNone) = true ∧ scalarAV p.1 = true then some (p.1, upd h id (some { b with xs := ints k (L.take off ++ p.2 ++ L.drop (off + len)) })) else none
  | _, _ => none

theorem asInts_eq {k : IntKind} {xs : List AV} {L : List Int} (h : asInts k xs = some L) : xs = ints k L := asInts_some h

theorem rep_ints {w w' : World} {M M' : Nat → Prop} (k : IntKind) : ∀ (L : List Int) (vs : List Value), RepL w M (flat (ints k L)) vs → RepL w' M' (flat (ints k L)) vs := by
  intro L vs h
  refine ⟨h.1, fun i x v hx hv => ?_⟩
  have hr := h.2 i x v hx hv
  have : ∀ (L : List Int) (x : AV), x ∈ flat (ints k L) → ∃ n, x = vInt k n := by
    intro L
    induction L with
    | nil => intro x hx; simp [ints, flat] at hx
    | cons n L ih =>
      intro x hx
      simp only [ints, List.map_cons, flat, cellsOf, vInt, List.mem_append, List.mem_singleton] at hx
      rcases hx with hx | hx
      · exact ⟨n, hx⟩
      · exact ih x hx
  obtain ⟨m, rfl⟩ := this L x (List.mem_of_getElem? hx)
  cases hr
  exact .val _

theorem inpl_of_awp {f : FuncId} {fn : Func} {c : Code} {k : IntKind} {sp : List AV → List Int → Option (AV × List Int)} (rs : List Nat) (hf : P.funcs[f]? = some fn) (hb : fn.body = some c) (hn : fn.ntmps = n) (hres : fn.results = (rs.map ResultVar.tmp).toArray)
    (h : ∀ (M0 : Nat → Prop) (w0 : Bs) (e : TypeId) (hdr : Option Value) (rest : List AV) (off len : Nat) (L S : List Int) (r : AV), off + len ≤ L.length → sp rest ((L.drop off).take len) = some (r, S) → S.length = len → scalarAV r = true → rest.length + 1 ≤ n ∧
      AWP P n M0 w0 c (fun σ => Res rs σ = r ∧ σ.h 1000 = some ⟨e, 1, ints k (L.take off ++ S ++ L.drop (off + len)), hdr⟩) (fun _ _ => False) (fun σ => Res rs σ = r ∧ σ.h 1000 = some ⟨e, 1, ints k (L.take off ++ S ++ L.drop (off + len)), hdr⟩)
        (st (args0 (.ref 1000 off len :: rest) 0) [(1000, ⟨e, 1, ints k L, hdr⟩)])) :
    InplOK P f (spInpl k sp) := by
  intro M0 w0 ρ h0 h' args vs w r hH hR hsp
  -- the part that is handed over, the same for both forms
  have main : ∀ (id : Nat) (b : Buf) (L S : List Int) (off len : Nat) (rest : List AV) (x : AV) (v : Value) (vs : List Value), h0 id = some b → b.xs = ints k L → b.sz = 1 → off + len ≤ L.length → sp rest ((L.drop off).take len) = some (r, S) → S.length = len → scalarAV r = true →
      rest.all (fun x => (refId x).isNone) = true → RepT w (inM M0 ρ h0) ρ h0 (.ref id off len) v → RepTL w (inM M0 ρ h0) ρ h0 rest vs →
      h' = upd h0 id (some { b with xs := ints k (L.take off ++ S ++ L.drop (off + len)) }) →
      Calls P f (v :: vs).toArray w fun e w' => ∃ v, e = .returned v ∧ SimH M0 w0 ρ h' w' ∧ Rep w' (inM M0 ρ h') r v ∧ w.heap.size ≤ w'.heap.size ∧ (∀ k, k < w.heap.size → ¬ inM M0 ρ h0 k → w'.heap[k]? = w.heap[k]?) ∧
      (∀ id, (h0 id = none ↔ h' id = none) ∧ ∀ b, h0 id = some b → ∃ b', h' id = some b' ∧ b'.sz = b.sz ∧ b'.xs.length = b.xs.length) := by
    intro id b L S off len rest x v vs hid hxs hsz hol hspS hSl hrs hrest hv hvs hh'
    let F : Nat → Prop := fun k => (ρ id).ownBlock ≠ some k
    let w1 : Bs := ⟨w, w0.base, F, hH.below.base_le⟩
    obtain ⟨hl, hA⟩ := h M0 w1 b.e (some (ρ id)) rest off len L S r hol hspS hSl hrs
    have hB := hH.own id b hid
    have hlen : rest.length = vs.length := hvs.1
    refine calls_of_wp hf hb ?_
    rw [hn]
    -- the state that it begins with
    have hin : ∀ k', inM M0 (fun _ => ρ id) (hlook [(1000, ⟨b.e, 1, ints k L, some (ρ id)⟩)]) k' → inM M0 ρ h0 k' := fun k' hk => by
      rcases hk with hk | ⟨i, bf, h1, h2⟩
      · exact .inl hk
      · exact .inr ⟨id, b, hid, h2⟩
    have hS : Sim n M0 w1 (fun _ => ρ id) (st (args0 (.ref 1000 off len :: rest) 0) [(1000, ⟨b.e, 1, ints k L, some (ρ id)⟩)]) { tmps := (v :: vs).toArray ++ Array.replicate (n - (v :: vs).toArray.size) undef, defers := [] } w := by
      refine ⟨by simp [← hlen]; omega, rfl, ⟨⟨rfl, rfl, rfl, Nat.le_refl _, fun _ _ _ => rfl⟩, fun i bf k' hi hk hc => hc.2 hk, fun i bf u hi hu => ?_, hH.m0, fun i bf hi => ?_, fun i j bi bj k' hij hi hj _ _ => ?_⟩, fun t => ?_⟩
      · simp only [st, hlook] at hi
        split at hi
        · cases hi; cases hu; rfl
        · cases hi
      · simp only [st, hlook] at hi
        split at hi
        · cases hi
          obtain ⟨q1, q2, us, q3, q4⟩ := hB
          rw [hxs, hsz] at q1 q3
          rw [hxs] at q4
          refine ⟨q1, by simp, us, q3, rep_ints k L us q4⟩
        · cases hi
      · simp only [st, hlook] at hi hj
        split at hi
        · split at hj
          · omega
          · cases hj
        · cases hi
      · show RepT w _ _ _ (slook (args0 (.ref 1000 off len :: rest) 0) t) _
        rw [slook_args]
        split
        · rename_i ht
          have hlt : t < (v :: vs).length := by simp only [List.length_cons] at ht ⊢; omega
          have hvv : ((v :: vs).toArray ++ Array.replicate (n - (v :: vs).toArray.size) undef).getD t undef = (v :: vs)[t] := by
            simp only [Array.getD_eq_getD_getElem?, Array.getElem?_append, List.size_toArray, hlt, if_true, List.getElem?_toArray, List.getElem?_eq_getElem, Option.getD_some]
          rw [hvv]
          cases t with
          | zero =>
            obtain ⟨b0, h1, h2, a, c, h3, h4, h5⟩ := hv
            rw [hid] at h1
            cases h1
            refine ⟨⟨b.e, 1, ints k L, some (ρ id)⟩, rfl, by simpa [ints_length] using hol, a, c, h3, h4, fun h0 => ?_⟩
            obtain ⟨g, m, cap, h6, h7⟩ := h5 h0
            exact ⟨g, m, cap, h6, by rw [h7, hsz]⟩
          | succ t =>
            have ht' : t < rest.length := by simp only [List.length_cons] at ht; omega
            have hx : rest[t]? = some (rest.getD t .top) := by simp [List.getD_eq_getElem?_getD, List.getElem?_eq_getElem ht']
            have hvt : t < vs.length := by omega
            have hrr := hvs.2 t _ _ hx (List.getElem?_eq_getElem hvt)
            have hno : refId (rest.getD t .top) = none := by
              have := List.all_eq_true.1 hrest _ (List.mem_of_getElem? hx)
              simpa using this
            simp only [Nat.sub_zero, List.getD_cons_succ, List.getElem_cons_succ]
            exact RepT.of_rep ((RepT.rep hno hrr).keep (Nat.le_refl _) (fun _ _ _ => rfl) (fun b' _ hb => hin b' hb))
        · exact RepT.of_rep (.top _)
    refine wp_mono (hA _ _ _ hS) fun e a w' q => ?_
    have fin : ∀ {ρ' σ}, Sim n M0 w1 ρ' σ a w' → (Res rs σ = r ∧ σ.h 1000 = some ⟨b.e, 1, ints k (L.take off ++ S ++ L.drop (off + len)), some (ρ id)⟩) → a.defers = [] ∧ ∃ v, (results fn a.tmps).run P w' = .ok v w' ∧ ∃ v', Ending.returned v = .returned v' ∧ SimH M0 w0 ρ h' w' ∧ Rep w' (inM M0 ρ h') r v' ∧ w.heap.size ≤ w'.heap.size ∧ (∀ k, k < w.heap.size → ¬ inM M0 ρ h0 k → w'.heap[k]? = w.heap[k]?) ∧
      (∀ id, (h0 id = none ↔ h' id = none) ∧ ∀ b, h0 id = some b → ∃ b', h' id = some b' ∧ b'.sz = b.sz ∧ b'.xs.length = b.xs.length) := by
      rintro ρ' σ hs ⟨hr, hh⟩
      have hρ : ρ' 1000 = ρ id := hs.hp.hdr 1000 _ _ hh rfl
      obtain ⟨q1, q2, us, q3, q4⟩ := hs.hp.own 1000 _ hh
      rw [hρ] at q3
      have hxl : (L.take off ++ S ++ L.drop (off + len)).length = L.length := by simp; omega
      have hk : ∀ k', k' < w.heap.size → (ρ id).ownBlock ≠ some k' → w'.heap[k']? = w.heap[k']? := fun k' hk' hne => hs.hp.below.block k' hk' hne
      have hg : w.grownBy w' (ρ id).ownBlock := ⟨hs.hp.below.os, hs.hp.below.tape, hs.hp.below.output, hs.hp.below.size, fun k' hk' hne => hk k' hk' (fun e => hne e.symm)⟩
      have hW := SimH.write (b' := { b with xs := ints k (L.take off ++ S ++ L.drop (off + len)) }) (vs' := us) hH hid hg rfl rfl (by rw [hsz]; exact q1) (by rw [hsz]; exact q3) (rep_ints k _ us q4)
      refine ⟨hs.defers, _, results_of hres a.tmps w', _, rfl, by rw [hh']; exact hW.1, ?_, hg.size, hW.2, fun i => ?_⟩
      · have hrr := res_rep (rs := rs) hs
        rw [hr] at hrr
        exact scalar_rep hrs hrr
      · subst hh'
        by_cases hi : i = id
        · subst hi
          rw [upd_same]
          refine ⟨by simp [hid], fun b0 hb0 => ?_⟩
          rw [hid] at hb0
          cases hb0
          exact ⟨_, rfl, rfl, by rw [hxs]; simp only [ints_length]; exact hxl⟩
        · rw [upd_ne _ _ hi]
          exact ⟨Iff.rfl, fun b0 hb0 => ⟨b0, hb0, rfl, rfl⟩⟩
    cases e with
    | normal => obtain ⟨ρ', σ, h1, h2⟩ := q; exact fin h1 h2
    | ret => obtain ⟨ρ', σ, h1, h2⟩ := q; exact fin h1 h2
    | exit i => obtain ⟨ρ', σ, h1, h2⟩ := q; exact h2.elim
    | goto l => exact q.elim
    | panic c => exact q.elim
    | outgrown => exact q.elim
  have split1 : ∀ (x : AV) (rest : List AV), args = x :: rest → ∃ v us, vs = v :: us ∧ RepT w (inM M0 ρ h0) ρ h0 x v ∧ RepTL w (inM M0 ρ h0) ρ h0 rest us := by
    intro x rest he
    subst he
    cases vs with
    | nil => simp [RepTL] at hR
    | cons v us =>
      refine ⟨v, us, rfl, hR.2 0 x v rfl rfl, by have := hR.1; simpa using this, fun i y u hy hu => hR.2 (i + 1) y u (by simpa using hy) (by simpa using hu)⟩
  unfold spInpl at hsp
  split at hsp
  · rename_i hh id rest
    obtain ⟨b, hb1, hsp⟩ := Option.bind_eq_some_iff.1 hsp
    obtain ⟨L, hL, hsp⟩ := Option.bind_eq_some_iff.1 hsp
    obtain ⟨p, hp, hsp⟩ := Option.bind_eq_some_iff.1 hsp
    split at hsp
    · rename_i hc
      obtain ⟨c1, c2, c3, c4⟩ := hc
      simp only [Option.some.injEq, Prod.mk.injEq] at hsp
      obtain ⟨rfl, rfl⟩ := hsp
      obtain ⟨v, us, rfl, hv, hus⟩ := split1 _ _ rfl
      have hxs := asInts_some hL
      have hxl : b.xs.length = L.length := by rw [hxs, ints_length]
      refine main id b L p.2 0 L.length rest .top v us hb1 hxs c2 (by omega) (by simpa using hp) c1 c4 c3 ?_ hus (by simp)
      obtain ⟨b0, h1, h2⟩ := hv
      rw [hb1] at h1
      cases h1
      obtain ⟨q1, q2, xs, q3, q4⟩ := hH.own id b hb1
      rw [hxl] at q3
      refine ⟨b, hb1, by omega, ?_⟩
      rcases q3.2 with ⟨e1, e2⟩ | ⟨g, cap, cur, e1, e2⟩
      · exact ⟨none, 0, by rw [h2, e1, e2], by omega, fun h0 => by omega⟩
      · have hcap : L.length ≤ cap := e2.2.2.1
        exact ⟨some ⟨g, 0, none⟩, cap, by rw [h2, e1], hcap, fun _ => ⟨g, L.length, cap, e1, by simp⟩⟩
    · cases hsp
  · rename_i hh id off len rest
    obtain ⟨b, hb1, hsp⟩ := Option.bind_eq_some_iff.1 hsp
    obtain ⟨L, hL, hsp⟩ := Option.bind_eq_some_iff.1 hsp
    obtain ⟨p, hp, hsp⟩ := Option.bind_eq_some_iff.1 hsp
    split at hsp
    · rename_i hc
      obtain ⟨c0, c1, c2, c3, c4⟩ := hc
      simp only [Option.some.injEq, Prod.mk.injEq] at hsp
      obtain ⟨rfl, rfl⟩ := hsp
      obtain ⟨v, us, rfl, hv, hus⟩ := split1 _ _ rfl
      exact main id b L p.2 off len rest .top v us hb1 (asInts_some hL) c2 c0 (by simpa using hp) c1 c4 c3 hv hus rfl
    · cases hsp
  · cases hsp

/-! ### Functions that hand a row of their own over -/
def spOwn (e : TypeId) (k : IntKind) (f : List AV → Option (List Int)) : List AV → Option Buf := fun args => (f args).map fun L => ⟨e, 1, ints k L, none⟩

theorem owned_of_awp {f : FuncId} {fn : Func} {c : Code} {e : TypeId} {k : IntKind} {sp : List AV → Option (List Int)} (r : Nat) (hf : P.funcs[f]? = some fn) (hb : fn.body = some c) (hn : fn.ntmps = n) (hres : fn.results = ([r].map ResultVar.tmp).toArray)
    (h : ∀ (M0 : Nat → Prop) (w0 : Bs) (args : List AV) (L : List Int), sp args = some L → args.length ≤ n ∧
      AWP P n M0 w0 c (fun σ => ∃ id, σ.t r = .own id ∧ σ.h id = some ⟨e, 1, ints k L, none⟩) (fun _ _ => False) (fun σ => ∃ id, σ.t r = .own id ∧ σ.h id = some ⟨e, 1, ints k L, none⟩) (st (args0 args 0) [])) :
    OwnedOK P f (spOwn e k sp) := by
  intro M args vs w b hM hR hr
  obtain ⟨L, hL, rfl⟩ := Option.map_eq_some_iff.1 hr
  obtain ⟨hl, hA⟩ := h M ⟨w, w.heap.size, fun _ => True, Nat.le_refl _⟩ args L hL
  refine calls_of_wp hf hb ?_
  rw [hn]
  refine wp_mono (hA _ _ _ (sim_start hM hR hl)) fun e' a w' q => ?_
  have fin : ∀ {ρ σ}, Sim n M ⟨w, w.heap.size, fun _ => True, Nat.le_refl _⟩ ρ σ a w' → (∃ id, σ.t r = .own id ∧ σ.h id = some ⟨e, 1, ints k L, none⟩) → a.defers = [] ∧ ∃ v, (results fn a.tmps).run P w' = .ok v w' ∧ ∃ v', Ending.returned v = .returned v' ∧ Below w.heap.size w w' ∧ (∀ k, v'.ownBlock = some k → w.heap.size ≤ k) ∧ OwnB w' (fun k => M k ∨ v'.ownBlock = some k) w.heap.size v' ⟨e, 1, ints k L, none⟩ := by
    rintro ρ σ hs ⟨id, h1, h2⟩
    have ht := hs.tm r
    rw [h1] at ht
    obtain ⟨b0, h3, h4⟩ := ht
    have hO := hs.hp.own id _ h2
    refine ⟨hs.defers, _, results_of hres a.tmps w', _, rfl, ⟨hs.hp.below.os, hs.hp.below.tape, hs.hp.below.output, hs.hp.below.size, fun k hk => hs.hp.below.block k hk trivial⟩, ?_, ?_⟩
    · show ∀ k, (a.tmps.getD r undef).ownBlock = some k → _
      rw [h4]
      exact fun k hk => (hO.lt k hk).1
    · show OwnB w' _ _ (a.tmps.getD r undef) _
      rw [h4]
      obtain ⟨q1, q2, us, q3, q4⟩ := hO
      exact ⟨q1, q2, us, q3, rep_ints k L us q4⟩
  cases e' with
  | normal => obtain ⟨ρ', σ, h1, h2⟩ := q; exact fin h1 h2
  | ret => obtain ⟨ρ', σ, h1, h2⟩ := q; exact fin h1 h2
  | exit i => obtain ⟨ρ', σ, h1, h2⟩ := q; exact h2.elim
  | goto l => exact q.elim
  | panic c => exact q.elim
  | outgrown => exact q.elim

attribute [go_sem] spInpl spOwn asInts_ints List.all_nil List.all_cons Bool.and_self Option.isNone_none Bool.true_and Bool.and_true

end
end Go.Abs
