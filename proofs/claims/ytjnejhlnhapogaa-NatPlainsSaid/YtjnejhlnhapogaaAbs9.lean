/- A literal row; calls; one operation, whole. -/
import Derived.Test.YtjnejhlnhapogaaAbs8
namespace Go.Abs
open Go Go.RowKit
set_option linter.unusedVariables false
set_option linter.unusedSimpArgs false

section
variable {P : Program} {n : Nat} {M0 : Nat → Prop} {w0 : Bs} {ρ : Nat → Value} {σ σ' : St} {a : Act} {w : World} {o : Oper} {Q : Exit → Act → World → Prop}

theorem foldl_put : ∀ (us : List (Value × Nat)) (off j : Nat) (cells : Array Value), (∀ (i : Nat) p, us[i]? = some p → p.2 = j + i) → off + j + us.length ≤ cells.size →
    (us.foldl (fun cs (p : Value × Nat) => cs.setIfInBounds (off + p.2) p.1) cells).size = cells.size ∧
    ∀ k : Nat, (us.foldl (fun cs (p : Value × Nat) => cs.setIfInBounds (off + p.2) p.1) cells)[k]? = if off + j ≤ k ∧ k < off + j + us.length then (us[k - (off + j)]?).map (·.1) else cells[k]?
  | [], off, j, cells, _, _ => ⟨rfl, fun k => by rw [if_neg (by simp)]; rfl⟩
  | u :: us, off, j, cells, h, hl => by
    simp only [List.length_cons] at hl
    have h0 : u.2 = j := by simpa using h 0 u rfl
    obtain ⟨h1, h2⟩ := foldl_put us off (j + 1) (cells.setIfInBounds (off + u.2) u.1) (fun i p hp => by have := h (i + 1) p (by simpa using hp); omega) (by simp; omega)
    refine ⟨by simpa using h1, fun k => ?_⟩
    simp only [List.foldl_cons]
    rw [h2 k]
    by_cases hk : off + (j + 1) ≤ k ∧ k < off + (j + 1) + us.length
    · rw [if_pos hk, if_pos (by simp; omega), show k - (off + j) = (k - (off + (j + 1))) + 1 by omega]
      simp
    · rw [if_neg hk, h0]
      by_cases hkj : k = off + j
      · subst hkj
        rw [if_pos (by simp)]
        simp [Array.getElem?_setIfInBounds]
        omega
      · rw [if_neg (by simp; omega), Array.getElem?_setIfInBounds_ne (by omega)]

theorem fill_one (size i : Nat) (cells : Array Value) (v : Value) (rest : List (Nat × Value)) (hv : v.cells.size = size) (hl : i * size + size ≤ cells.size) :
    ∃ cells', Instr.fill (fun i => some (i * size, size)) cells ((i, v) :: rest) = Instr.fill (fun i => some (i * size, size)) cells' rest ∧ cells'.size = cells.size ∧
      ∀ k : Nat, cells'[k]? = if i * size ≤ k ∧ k < i * size + size then v.cells[k - i * size]? else cells[k]? := by
  have hf := foldl_put v.cells.zipIdx.toList (i * size) 0 cells (fun j p hp => by
    rw [Array.toList_zipIdx] at hp
    simp at hp
    obtain ⟨a, h1, rfl⟩ := hp
    simp) (by simp; omega)
  refine ⟨v.cells.zipIdx.foldl (fun cs (p : Value × Nat) => cs.setIfInBounds (i * size + p.2) p.1) cells, ?_, ?_, fun k => ?_⟩
  · simp only [Instr.fill]
    rw [if_neg (by simp; omega)]
  · rw [← Array.foldl_toList]; exact hf.1
  · rw [← Array.foldl_toList, hf.2 k]
    simp only [Nat.add_zero, Array.length_toList, Array.size_zipIdx, hv]
    split
    · rename_i h
      rw [Array.toList_zipIdx]
      simp
      cases h1 : v.cells[k - i * size]? <;> simp
    · rfl

theorem fill_all {size : Nat} : ∀ (ps : List (Nat × Value)) (i : Nat) (cells : Array Value) (m : Nat), (∀ (j : Nat) p, ps[j]? = some p → p.1 = i + j ∧ p.2.cells.size = size) → i + ps.length = m → cells.size = m * size →
    ∃ cells', Instr.fill (fun i => some (i * size, size)) cells ps = some cells' ∧ cells'.size = m * size ∧
      ∀ k : Nat, cells'[k]? = if i * size ≤ k then ((ps.flatMap fun p => p.2.cells.toList)[k - i * size]?) else cells[k]?
  | [], i, cells, m, _, hm, hs => ⟨cells, rfl, hs, fun k => by
      simp at hm
      subst hm
      split
      · rename_i h
        rw [Array.getElem?_eq_none (by omega)]
        simp
      · rfl⟩
  | (j, v) :: ps, i, cells, m, h, hm, hs => by
    obtain ⟨h1, h2⟩ := h 0 (j, v) rfl
    simp at h1
    subst h1
    simp only [List.length_cons] at hm
    have hle : (j + 1) * size ≤ m * size := Nat.mul_le_mul_right _ (by omega)
    have e : (j + 1) * size = j * size + size := by rw [Nat.add_mul]; omega
    obtain ⟨c1, k1, k2, k3⟩ := fill_one size j cells v ps h2 (by omega)
    obtain ⟨c2, g1, g2, g3⟩ := fill_all ps (j + 1) c1 m (fun i p hp => by have := h (i + 1) p (by simpa using hp); exact ⟨by omega, this.2⟩) (by omega) (by omega)
    refine ⟨c2, by rw [k1, g1], g2, fun k => ?_⟩
    rw [g3 k, k3 k]
    have hvl : v.cells.toList.length = size := by simpa using h2
    simp only [List.flatMap_cons]
    by_cases hk : (j + 1) * size ≤ k
    · rw [if_pos hk, if_pos (by omega), List.getElem?_append_right (by omega), hvl]
      congr 1
      omega
    · rw [if_neg hk]
      by_cases hk2 : j * size ≤ k
      · rw [if_pos (by omega), if_pos hk2, List.getElem?_append_left (by omega)]
        simp
      · rw [if_neg (by omega), if_neg hk2]

theorem inM_lt {h : Hp} (hh : SimH M0 w0 ρ h w) {b : Nat} (hb : inM M0 ρ h b) : b < w.heap.size := by
  rcases hb with hb | ⟨id, bf, h1, h2⟩
  · exact Nat.lt_of_lt_of_le (hh.m0 b hb) hh.below.base_le
  · exact ((hh.own id bf h1).lt b h2).2

theorem elemOk_rep {sz : Nat} {h : Hp} {M : Nat → Prop} {x : AV} {v : Value} (hx : elemOk sz x = true) (hr : RepT w M ρ h x v) :
    Rep w M x v ∧ v.cells.size = sz ∧ RepL w M (cellsOf x) v.cells.toList ∧ (cellsOf x).length = sz ∧ (cellsOf x).all cellAV = true := by
  simp only [elemOk, Bool.and_eq_true, Bool.or_eq_true, beq_iff_eq, Bool.not_eq_true', bne_iff_ne] at hx
  obtain ⟨⟨⟨h1, h2⟩, _⟩, _⟩ := hx
  have hid : refId x = none := by
    cases x <;> first | rfl | (simp [cellsOf, cellAV] at h2)
  have hR := RepT.rep hid hr
  have hc := hR.cells h2
  exact ⟨hR, by rw [← Array.length_toList, ← hc.1.1, h1], hc.1, h1, h2⟩

theorem idxOk_spec : ∀ (ps : List (Nat × Operand)) (k : Nat), idxOk ps k = true → ∀ (j : Nat) p, ps[j]? = some p → p.1 = k + j
  | [], _, _, j, p, h => by simp at h
  | (i, x) :: r, k, hk, j, p, h => by
    simp only [idxOk, Bool.and_eq_true, beq_iff_eq] at hk
    cases j with
    | zero => simp at h; subst h; exact hk.1
    | succ j => have := idxOk_spec r (k + 1) hk.2 j p (by simpa using h); omega

theorem flatMap_cells (hs : Sim n M0 w0 ρ σ a w) {sz : Nat} : ∀ (ps : List (Nat × Operand)), (ps.map fun p => ev σ p.2).all (elemOk sz) = true →
    RepL w (inM M0 ρ σ.h) (flat (ps.map fun p => ev σ p.2)) ((ps.map fun p => (p.1, a.eval p.2)).flatMap fun p => p.2.cells.toList)
  | [], _ => .nil
  | p :: ps, h => by
    simp only [List.map_cons, List.all_cons, Bool.and_eq_true] at h
    simp only [List.map_cons, flat, List.flatMap_cons]
    exact (elemOk_rep h.1 (ev_rep hs p.2)).2.2.1.append (flatMap_cells hs ps h.2)

theorem run_aBuild {t e : TypeId} {sz by_ m : Nat} {z : AV} {ek : Option IntKind} {ps : Array (Nat × Operand)} (hs : Sim n M0 w0 ρ σ a w) (hsh : ShOK P t (.slice e sz by_ z ek)) (hidx : idxOk ps.toList 0 = true) (hl : ps.size = m)
    (hm : m ≤ 100) (hz100 : sz ≤ 100) (hel : (ps.toList.map fun p => ev σ p.2).all (elemOk sz) = true) :
    ∃ v w', (Instr.buildSlice t m (ps.map fun (i, x) => (i, a.eval x))).run P w = .ok v w' ∧ Below w.heap.size w w' ∧ (0 < m → Rep w' (inM M0 ρ σ.h) (.lst (ps.toList.map fun p => ev σ p.2)) v) ∧
      (m = 0 → v = .slice (some ⟨w.heap.size, 0, none⟩) 0 0 ∧ w'.ownsRow w0.base e sz v 0 []) := by
  obtain ⟨hu, _, hpos, _, ti, zv, hi, hsz, hby, hz, hzs, hzl, hzR⟩ := hsh
  have hso : ∀ w : World, (sizeOf e).run P w = .ok sz w := fun w => by simp [sizeOf, typeInfo, hi, hsz]
  have hzero : ∀ w : World, (zeroValue e).run P w = .ok zv w := fun w => by simp [zeroValue, typeInfo, hi, hz, Result.andThen]
  have hle : m * sz ≤ 100 * 100 := Nat.mul_le_mul hm hz100
  have hn24 : ¬ (2 ^ 24 < m * sz) := by omega
  obtain ⟨cells', k1, k2, k3⟩ := fill_all (size := sz) (ps.toList.map fun p => (p.1, a.eval p.2)) 0 ((Array.range (m * sz)).map (zv.cells[· % zv.cells.size]!)) m (fun j p hp => by
    simp at hp
    obtain ⟨i, x, h1, rfl⟩ := hp
    refine ⟨?_, ?_⟩
    · have := idxOk_spec _ 0 hidx j (i, x) (by simpa using h1)
      simpa using this
    · have hmem : elemOk sz (ev σ x) = true := by
        refine List.all_eq_true.1 hel _ (List.mem_map.2 ⟨(i, x), ?_, rfl⟩)
        exact List.mem_of_getElem? (i := j) (by simpa using h1)
      exact (elemOk_rep hmem (ev_rep hs x)).2.1) (by simpa using hl) (by simp)
  have hB : Below w.heap.size w (w.alloc (.cells cells' e)) := (Below.refl _ _).alloc (Nat.le_refl _) _
  have hpm : (ps.map fun (i, x) => (i, a.eval x)).toList = ps.toList.map fun p => (p.1, a.eval p.2) := by simp
  have hrun : (Instr.buildSlice t m (ps.map fun (i, x) => (i, a.eval x))).run P w = .ok (.slice (some ⟨w.heap.size, 0, none⟩) m m) (w.alloc (.cells cells' e)) := by
    unfold Instr.buildSlice
    simp only [Sem.run_bind, run_underlying hu, Result.andThen, hso]
    have hgt : ¬ m * sz > 2 ^ 24 := hn24
    by_cases h0 : m * sz = 0
    · have e0 : (Array.range (m * sz)).map (fun x => zv.cells[x % zv.cells.size]!) = #[] := by rw [h0]; simp
      have e1 : (Array.range (m * sz)).map (fun x => (#[] : Array Value)[x % (#[] : Array Value).size]!) = #[] := by rw [h0]; simp
      rw [e0] at k1
      simp only [if_neg hgt, if_pos h0, Sem.run_bind, Sem.run_pure, Result.andThen, hpm, e1, k1]
      rfl
    · simp only [if_neg hgt, if_neg h0, Sem.run_bind, Sem.run_pure, Result.andThen, hzero, hpm, k1]
      rfl
  refine ⟨_, _, hrun, hB, fun h0 => ?_, fun h0 => ?_⟩
  · have hlen : (ps.toList.map fun p => ev σ p.2).length = m := by simpa using hl
    have huni : uni sz (ps.toList.map fun p => ev σ p.2) := fun x hx => (by
      have := List.all_eq_true.1 hel x hx
      simp only [elemOk, Bool.and_eq_true, beq_iff_eq] at this
      exact this.1.1.1)
    have hfm := (flatMap_cells hs ps.toList hel).keep hB.size (fun b hb _ => hB.block b hb) (fun _ _ h => h)
    have hR : Rep (w.alloc (.cells cells' e)) (inM M0 ρ σ.h) (.lst (ps.toList.map fun p => ev σ p.2)) (.slice (some ⟨w.heap.size, 0, none⟩) (ps.toList.map fun p => ev σ p.2).length m) := by
      refine .lst _ _ _ sz w.heap.size 0 (fun j => cells'.getD j undef) (by omega) huni (fun _ => ⟨rfl, by simp, fun hm => by have := inM_lt hs.hp hm; omega⟩) (fun j y hy => ?_) (fun j y hy => ?_)
      · obtain ⟨u, hu', _⟩ := hfm.get hy
        have hk := k3 j
        rw [if_pos (by omega)] at hk
        simp only [Nat.zero_mul, Nat.sub_zero] at hk
        rw [hu'] at hk
        have hcell := cell_of_row (w.alloc (.cells cells' e)) w.heap.size (0 + j) cells' e (0, 0) (heap_alloc_new w _)
        rw [hcell]
        simp [hk, Array.getD_eq_getD_getElem?]
      · obtain ⟨u, hu', hrep⟩ := hfm.get hy
        have hk := k3 j
        rw [if_pos (by omega)] at hk
        simp only [Nat.zero_mul, Nat.sub_zero] at hk
        rw [hu'] at hk
        simpa [hk, Array.getD_eq_getD_getElem?] using hrep
    rwa [hlen] at hR
  · subst h0
    have hc0 : cells' = #[] := by
      have : cells'.size = 0 := by simpa using k2
      exact Array.eq_empty_of_size_eq_zero this
    subst hc0
    exact ⟨rfl, by simpa using World.ownsRow_lit (base := w0.base) (e := e) (size := sz) w #[] 0 hs.hp.below.base_le (by simp) (by simp)⟩

/-! ### Calls -/
def Enters (P : Program) (f : FuncId) : Prop := ∃ fn, P.funcs[f]? = some fn ∧ (fn.name == "runtime.NumGoroutine") = false ∧ fn.body.isNone = false

def PureOK (P : Program) (f : FuncId) (sp : List AV → Option AV) : Prop :=
  ∀ (M : Nat → Prop) (args : List AV) (vs : List Value) (w : World) (r : AV), (∀ b, M b → b < w.heap.size) → RepL w M args vs → sp args = some r →
    Calls P f vs.toArray w fun e w' => ∃ v, e = .returned v ∧ Rep w' M r v ∧ Below w.heap.size w w'

def OwnedOK (P : Program) (f : FuncId) (sp : List AV → Option Buf) : Prop :=
  ∀ (M : Nat → Prop) (args : List AV) (vs : List Value) (w : World) (b : Buf), (∀ b, M b → b < w.heap.size) → RepL w M args vs → sp args = some b →
    Calls P f vs.toArray w fun e w' => ∃ v, e = .returned v ∧ Below w.heap.size w w' ∧ (∀ k, v.ownBlock = some k → w.heap.size ≤ k) ∧ OwnB w' (fun k => M k ∨ v.ownBlock = some k) w.heap.size v b

def RepTL (w : World) (M : Nat → Prop) (ρ : Nat → Value) (h : Hp) (xs : List AV) (vs : List Value) : Prop := xs.length = vs.length ∧ ∀ (i : Nat) x v, xs[i]? = some x → vs[i]? = some v → RepT w M ρ h x v

def InplOK (P : Program) (f : FuncId) (sp : List AV → Hp → Option (AV × Hp)) : Prop :=
  ∀ (M0 : Nat → Prop) (w0 : Bs) (ρ : Nat → Value) (h h' : Hp) (args : List AV) (vs : List Value) (w : World) (r : AV), SimH M0 w0 ρ h w → RepTL w (inM M0 ρ h) ρ h args vs → sp args h = some (r, h') →
    Calls P f vs.toArray w fun e w' => ∃ v, e = .returned v ∧ SimH M0 w0 ρ h' w' ∧ Rep w' (inM M0 ρ h') r v ∧ w.heap.size ≤ w'.heap.size ∧ (∀ k, k < w.heap.size → ¬ inM M0 ρ h k → w'.heap[k]? = w.heap[k]?) ∧
      (∀ id, (h id = none ↔ h' id = none) ∧ ∀ b, h id = some b → ∃ b', h' id = some b' ∧ b'.sz = b.sz ∧ b'.xs.length = b.xs.length)

def SpecOK (P : Program) (f : FuncId) : Spec → Prop
  | .none => True
  | .pure sp => Enters P f ∧ PureOK P f sp
  | .owned sp => Enters P f ∧ OwnedOK P f sp
  | .inpl sp => Enters P f ∧ InplOK P f sp

theorem run_call {f : FuncId} (hf : Enters P f) {ty : TypeId} {c : Call} {g : Operand} {vs : List Value} (hc : c.callee = .value g) (hg : a.eval g = .func (.func f) #[] #[]) (hv : c.args.toList.map a.eval = vs) :
    (do let d ← resolve a.eval c ty; invoke d.target d.args : Sem Next).run P w = .ok (.enter f vs.toArray) w := by
  obtain ⟨fn, h1, h2, h3⟩ := hf
  have e : c.args.map a.eval = vs.toArray := by
    rw [← hv]
    apply Array.ext'
    simp
  have h2' : ¬ fn.name = "runtime.NumGoroutine" := by simpa using h2
  simp [resolve, hc, hg, Deferred.ofValue, invoke, callFunc, h1, h2', Result.andThen, e]
  intro hb
  rw [hb] at h3
  cases h3

theorem SimH.erase {h : Hp} (hh : SimH M0 w0 ρ h w) (ids : List Nat) : SimH M0 w0 ρ (eraseAll ids h) w := by
  have get : ∀ {id b}, eraseAll ids h id = some b → h id = some b := fun {id b} hb => by
    unfold eraseAll at hb
    split at hb
    · cases hb
    · exact hb
  have hM : ∀ b, inM M0 ρ (eraseAll ids h) b → inM M0 ρ h b := fun b hb => hb.imp id (fun ⟨i, bf, h1, h2⟩ => ⟨i, bf, get h1, h2⟩)
  refine ⟨hh.below, fun id b k hb hk => hh.off id b k (get hb) hk, fun id b u hb hu => hh.hdr id b u (get hb) hu, hh.m0, fun id b hb => ?_, fun i j bi bj k hij hi hj hki hkj => hh.apart i j bi bj k hij (get hi) (get hj) hki hkj⟩
  obtain ⟨h1, h2, vs, h3, h4⟩ := hh.own id b (get hb)
  exact ⟨h1, h2, vs, h3, h4.keep (Nat.le_refl _) (fun _ _ _ => rfl) (fun b _ hb => hM b hb)⟩

theorem inM_erase {h : Hp} {ids : List Nat} {b : Nat} (hb : inM M0 ρ (eraseAll ids h) b) : inM M0 ρ h b := hb.imp id (fun ⟨i, bf, h1, h2⟩ => ⟨i, bf, by
  unfold eraseAll at h1
  split at h1
  · cases h1
  · exact h1, h2⟩)

/-- What is handed on to be read. -/
theorem frz_rep {h : Hp} (hh : SimH M0 w0 ρ h w) {ids : List Nat} {x : AV} {v : Value} (hx : RepT w (inM M0 ρ h) ρ h x v) (hid : ∀ id, refId x = some id → id ∈ ids) :
    Rep w (inM M0 ρ (eraseAll ids h)) (frz h x) v := by
  have keep : ∀ {y u}, Rep w (inM M0 ρ h) y u → Rep w (inM M0 ρ (eraseAll ids h)) y u := fun hr => hr.keep (Nat.le_refl _) (fun _ _ _ => rfl) (fun b _ hb => inM_erase hb)
  have row : ∀ xs, elems h x = some xs → Rep w (inM M0 ρ (eraseAll ids h)) (.lst xs) v := by
    intro xs he
    obtain ⟨ad, c, sz, b, off, f, rfl, g1, g2, g3, g4, g5, g6, g7, g8⟩ := elems_rep hh hx he
    refine .lst xs ad c sz b off f g1 g2 (fun h0 => ⟨(g3 h0).1, (g3 h0).2, fun hm => ?_⟩) g4 (fun j y hy => keep (g5 j y hy))
    cases hr : refId x with
    | none => exact g7 hr h0 (inM_erase hm)
    | some id =>
      rcases hm with hm | ⟨i, bf, h1, h2⟩
      · have hb := g8 id hr h0
        have hxid : ∃ bf, h id = some bf := by
          cases x <;> simp [refId] at hr
          · subst hr; obtain ⟨bf, h1, _⟩ := hx; exact ⟨bf, h1⟩
          · subst hr; obtain ⟨bf, h1, _⟩ := hx; exact ⟨bf, h1⟩
          · simp [elems] at he
        obtain ⟨bf, hbf⟩ := hxid
        have := ((hh.own id bf hbf).lt b hb).1
        have := hh.m0 b hm
        omega
      · unfold eraseAll at h1
        split at h1
        · cases h1
        · rename_i hni
          exact g6 h0 i (fun e => hni (hid i e)) bf h1 h2
  unfold frz
  split
  · exact row [] rfl
  · rename_i id
    split
    · rename_i b hb
      exact row b.xs (by simp [elems, hb])
    · exact .top _
  · rename_i id off len
    split
    · rename_i b hb
      exact row _ (by simp [elems, hb])
    · exact .top _
  · exact .top _
  · rename_i h1 h2 h3 h4
    exact keep (RepT.rep (by cases x <;> first | rfl | exact absurd rfl (h2 _) | exact absurd rfl (h3 _ _ _) | exact absurd rfl (h4 _ _ _)) hx)

theorem scalar_rep {M M' : Nat → Prop} {w w' : World} {r : AV} {v : Value} (hs : scalarAV r = true) (hr : Rep w M r v) : Rep w' M' r v := by
  have one : ∀ {x u}, (match x with | AV.val _ | .anyb => true | _ => false) = true → Rep w M x u → Rep w' M' x u := by
    intro x u hx hr
    cases hr <;> first | exact .val _ | exact .anyb _ | (simp at hx)
  cases hr with
  | val v => exact .val v
  | anyb b => exact .anyb b
  | tup xs vs hl hc => exact .tup xs vs hl (fun i x v hx hv => one (by
      simp only [scalarAV] at hs
      exact List.all_eq_true.1 hs x (List.mem_of_getElem? hx)) (hc i x v hx hv))
  | agg xs vs hl hc => exact .agg xs vs hl (fun i x v hx hv => one (by
      simp only [scalarAV] at hs
      exact List.all_eq_true.1 hs x (List.mem_of_getElem? hx)) (hc i x v hx hv))
  | top v => simp [scalarAV] at hs
  | lst => simp [scalarAV] at hs
  | pe => simp [scalarAV] at hs

end
end Go.Abs
