/- Functions and loops on the abstract state. -/
import Derived.Test.YtjnejhlnhapogaaAbs12
namespace Go.Abs
open Go Go.RowKit
set_option linter.unusedVariables false
set_option linter.unusedSimpArgs false

section
variable {P : Program} {Θ : TypeId → Sh} {Γ : FuncId → Spec} {n : Nat} {M0 : Nat → Prop} {w0 : Bs}

def hlook : List (Nat × Buf) → Hp
  | [], _ => none
  | (k, v) :: r, j => if j = k then some v else hlook r j
def updL : List (Nat × Buf) → Nat → Buf → List (Nat × Buf)
  | [], i, b => [(i, b)]
  | (j, c) :: r, i, b => if i = j then (i, b) :: r else (j, c) :: updL r i b
theorem upd_hlook (L : List (Nat × Buf)) (i : Nat) (b : Buf) : upd (hlook L) i (some b) = hlook (updL L i b) := by
  induction L with
  | nil => funext j; simp [upd, hlook, updL]
  | cons p r ih =>
    obtain ⟨k, c⟩ := p
    funext j
    have := congrFun ih j
    simp only [upd] at this
    simp only [upd, hlook, updL]
    by_cases hik : i = k
    · subst hik
      simp only [if_true, hlook]
      split <;> rfl
    · rw [if_neg hik]
      simp only [hlook]
      by_cases hji : j = i
      · subst hji
        rw [if_pos rfl, if_neg hik]
        simpa using this
      · rw [if_neg hji]
        rw [if_neg hji] at this
        rw [this]
theorem erase_hlook (ids : List Nat) (L : List (Nat × Buf)) : eraseAll ids (hlook L) = hlook (L.filter fun p => decide (p.1 ∉ ids)) := by
  induction L with
  | nil => funext j; simp [eraseAll, hlook]
  | cons p r ih =>
    obtain ⟨k, c⟩ := p
    funext j
    have := congrFun ih j
    simp only [eraseAll] at this
    by_cases hk : k ∈ ids
    · have e : (((k, c) :: r).filter fun p => decide (p.1 ∉ ids)) = r.filter fun p => decide (p.1 ∉ ids) := by
        rw [List.filter_cons, if_neg (by simp [hk])]
      rw [e, ← this]
      simp only [eraseAll, hlook]
      by_cases hj : j ∈ ids
      · rw [if_pos hj, if_pos hj]
      · rw [if_neg hj, if_neg hj, if_neg (fun (e : j = k) => hj (by rw [e]; exact hk))]
    · have e : (((k, c) :: r).filter fun p => decide (p.1 ∉ ids)) = (k, c) :: r.filter fun p => decide (p.1 ∉ ids) := by
        rw [List.filter_cons, if_pos (by simp [hk])]
      rw [e]
      simp only [eraseAll, hlook]
      by_cases hjk : j = k
      · subst hjk; rw [if_neg hk, if_pos rfl, if_pos rfl]
      · rw [if_neg hjk, if_neg hjk, this]

/-- The state that a list of slots and a list of buffers tell. -/
def st (L : List (Nat × AV)) (H : List (Nat × Buf)) : St := ⟨slook L, hlook H⟩
def agree (L : List (Nat × AV)) (t : Nat → AV) : Prop := ∀ p ∈ L, t p.1 = p.2
theorem agree_nil (t : Nat → AV) : agree [] t := fun p hp => by cases hp
theorem agree_cons {k : Nat} {v : AV} {L : List (Nat × AV)} {t : Nat → AV} : agree ((k, v) :: L) t ↔ t k = v ∧ agree L t := by simp [agree]

variable {N N' : St → Prop} {X X' : Nat → St → Prop} {R R' : St → Prop} {σ σ' : St}

theorem awp_seq_k {x y : Code} (h : ∀ K : St → Prop, (∀ σ, AWP P n M0 w0 y N X R σ → K σ) → AWP P n M0 w0 x K X R σ) : AWP P n M0 w0 (.seq x y) N X R σ := awp_seq (h _ fun _ h => h)

theorem awp_forget {c : Code} (L : List (Nat × AV)) (hL : agree L σ.t) (h : AWP P n M0 w0 c N X R ⟨slook L, σ.h⟩) : AWP P n M0 w0 c N X R σ := fun ρ a w hs => h ρ a w (hs.forget hL)

/-- A loop: `I` tells the state at its head by a number and whatever else (`ι`). -/
theorem awp_loop_st {ι : Type} {c : Code} (L : ι → List (Nat × AV)) (H : ι → List (Nat × Buf)) (μ : ι → Nat) (Inv : ι → Prop) (i0 : ι) (hI : Inv i0) (hL : agree (L i0) σ.t) (hH : σ.h = hlook (H i0))
    (hr : ∀ i, Inv i → AWP P n M0 w0 c (fun σ' => ∃ j, Inv j ∧ agree (L j) σ'.t ∧ σ'.h = hlook (H j) ∧ μ j < μ i) X R (st (L i) (H i))) : AWP P n M0 w0 (.loop c) N X R σ := by
  intro ρ a w hs b k cs
  have key : ∀ (m : Nat) (i : ι), Inv i → μ i = m → ∀ (ρ : Nat → Value) (a : Act) (w : World), Sim n M0 w0 ρ (st (L i) (H i)) a w → ∀ (b : Frame) (k : List Item) (cs : List Frame),
      ∃ e a' w', Post n M0 w0 N X R e a' w' ∧ Arrives P (lone (b.at a (.code c :: .inLoop c :: k)) cs w) b k cs e a' w' := by
    intro m
    induction m using Nat.strongRecOn with
    | _ m ih =>
      intro i hi hm ρ a w hs b k cs
      obtain ⟨e, a1, w1, hq, harr⟩ := hr i hi ρ a w hs b (.inLoop c :: k) cs
      cases e with
      | normal =>
        obtain ⟨ρ1, σ1, h1, j, h2, h3, h4, h5⟩ := hq
        have h6 := h1.forget h3
        rw [h4] at h6
        obtain ⟨e2, a2, w2, hq2, harr2⟩ := ih (μ j) (hm ▸ h5) j h2 rfl ρ1 a1 w1 h6 b k cs
        exact ⟨e2, a2, w2, hq2, .of_steps (Steps.trans harr (.one step_inLoop)) harr2⟩
      | exit id => exact ⟨.exit id, a1, w1, (show Post n M0 w0 N X R (.exit id) a1 w1 from hq), .pass (x := .inLoop c) rfl (fun _ _ => .inl (by simp)) harr⟩
      | ret => exact ⟨.ret, a1, w1, (show Post n M0 w0 N X R .ret a1 w1 from hq), .pass (x := .inLoop c) rfl (fun _ _ => .inl (by simp)) harr⟩
      | goto l => exact hq.elim
      | panic ch => exact hq.elim
      | outgrown => exact hq.elim
  have h0 := hs.forget hL
  rw [hH] at h0
  obtain ⟨e, a', w', hq, harr⟩ := key _ i0 hI rfl ρ a w h0 b k cs
  exact ⟨e, a', w', hq, .of_steps (.one step_loop) harr⟩

theorem arun_nil {all : Array Oper} {K : St → Prop} (h : K σ) : arun Θ Γ all [] σ K := h
theorem arun_step {all : Array Oper} {K : St → Prop} {o : Oper} {rest : List Oper} (hg : o.guard = none) (h : astep Θ Γ o σ = some σ') (k : arun Θ Γ all rest σ' K) : arun Θ Γ all (o :: rest) σ K := by
  unfold arun; rw [hg]; exact ⟨σ', h, k⟩
theorem arun_if {all : Array Oper} {K : St → Prop} {o : Oper} {rest : List Oper} {c : Prop} {i : Decidable c} (hg : o.guard = none) (h : astep Θ Γ o σ = @ite _ c i (some σ') none) (hc : c) (k : arun Θ Γ all rest σ' K) : arun Θ Γ all (o :: rest) σ K :=
  arun_step hg (by rw [h, if_pos hc]) k
theorem arun_ifn {all : Array Oper} {K : St → Prop} {o : Oper} {rest : List Oper} {c : Prop} {i : Decidable c} (hg : o.guard = none) (h : astep Θ Γ o σ = @ite _ c i none (some σ')) (hc : ¬ c) (k : arun Θ Γ all rest σ' K) : arun Θ Γ all (o :: rest) σ K :=
  arun_step hg (by rw [h, if_neg hc]) k
theorem arun_guard {all : Array Oper} {K : St → Prop} {dst : Option Tmp} {op : Op} {ty : TypeId} {pos : String} {af : Array Edge} {rest : List Oper} {g d : Nat} {b want : Bool} (h : guardTmp all g = some d) (hb : σ.t d = .val (.bool b))
    (ht : b = want → arun Θ Γ all (⟨dst, op, ty, pos, af, none⟩ :: rest) σ K) (hf : b = !want → arun Θ Γ all rest (σ.set dst .top) K) : arun Θ Γ all (⟨dst, op, ty, pos, af, some (g, want)⟩ :: rest) σ K := by
  unfold arun
  simp only [h]
  refine ⟨b, hb, fun hw => ?_, fun hw => hf (by cases b <;> cases want <;> simp_all)⟩
  have := ht hw
  unfold arun at this
  exact this
theorem arun_gyes {all : Array Oper} {K : St → Prop} {dst : Option Tmp} {op : Op} {ty : TypeId} {pos : String} {af : Array Edge} {rest : List Oper} {g d : Nat} {b want : Bool} (h : guardTmp all g = some d) (hb : σ.t d = .val (.bool b)) (hw : b = want)
    (ht : arun Θ Γ all (⟨dst, op, ty, pos, af, none⟩ :: rest) σ K) : arun Θ Γ all (⟨dst, op, ty, pos, af, some (g, want)⟩ :: rest) σ K :=
  arun_guard h hb (fun _ => ht) (fun hf => by subst hw; cases b <;> cases hf)
theorem arun_gno {all : Array Oper} {K : St → Prop} {dst : Option Tmp} {op : Op} {ty : TypeId} {pos : String} {af : Array Edge} {rest : List Oper} {g d : Nat} {b want : Bool} (h : guardTmp all g = some d) (hb : σ.t d = .val (.bool b)) (hw : b = !want)
    (hf : arun Θ Γ all rest (σ.set dst .top) K) : arun Θ Γ all (⟨dst, op, ty, pos, af, some (g, want)⟩ :: rest) σ K :=
  arun_guard h hb (fun ht => by subst ht; cases b <;> cases hw) (fun _ => hf)

theorem slook_nil (j : Nat) : slook [] j = .top := rfl
theorem slook_cons (k : Nat) (v : AV) (r : List (Nat × AV)) (j : Nat) : slook ((k, v) :: r) j = if j = k then v else slook r j := rfl
theorem upd_app {α : Type} (f : Nat → α) (i : Nat) (v : α) (j : Nat) : upd f i v j = if j = i then v else f j := rfl
theorem hlook_nil (j : Nat) : hlook [] j = none := rfl
theorem hlook_cons (k : Nat) (v : Buf) (r : List (Nat × Buf)) (j : Nat) : hlook ((k, v) :: r) j = if j = k then some v else hlook r j := rfl
theorem ite_some {α : Type} {c : Prop} [Decidable c] {x y : α} : (if c then some x else none) = some y ↔ c ∧ x = y := by split <;> simp_all
theorem map_ite_some {α β : Type} {c : Prop} [Decidable c] {x : α} {f : α → β} : (if c then some x else none).map f = if c then some (f x) else none := by split <;> rfl
theorem ite_bind {c : Prop} [Decidable c] {x y : St} {K : St → Prop} : (∃ σ', (if c then some x else none) = some σ' ∧ K σ') ↔ c ∧ K x := by split <;> simp_all
theorem ints_length (k : IntKind) (L : List Int) : (ints k L).length = L.length := by simp [ints]
theorem ints_getD (k : IntKind) (L : List Int) (i : Nat) (h : i < L.length) : (ints k L).getD i .top = vInt k (L.getD i 0) := by
  simp [ints, List.getD_eq_getElem?_getD, h]

/-! ### What is weakened -/
/-- A nil slice is read as an empty row. -/
def nrm : AV → AV
  | .val (.slice none 0 0) => .lst []
  | x => x
theorem nrm_rep {w : World} {M : Nat → Prop} {ρ : Nat → Value} {h : Hp} {x : AV} {v : Value} (hx : RepT w M ρ h x v) : RepT w M ρ h (nrm x) v := by
  unfold nrm
  split
  · obtain rfl := hx.val_eq
    exact RepT.of_rep (.lst [] none 0 1 0 0 (fun _ => undef) (Nat.le_refl _) (fun x hx => by simp at hx) (fun h => by simp at h) (fun j y hy => by simp [flat] at hy) (fun j y hy => by simp [flat] at hy))
  · exact hx

theorem awp_nrm {c : Code} (s : Nat) (h : AWP P n M0 w0 c N X R ⟨upd σ.t s (nrm (σ.t s)), σ.h⟩) : AWP P n M0 w0 c N X R σ := fun ρ a w hs => h ρ a w ⟨hs.size, hs.defers, hs.hp, fun t => by
  by_cases ht : t = s
  · subst ht
    show RepT w _ ρ _ (upd σ.t t (nrm (σ.t t)) t) _
    rw [upd_same]
    exact nrm_rep (hs.tm t)
  · show RepT w _ ρ _ (upd σ.t s (nrm (σ.t s)) t) _
    rw [upd_ne _ _ ht]
    exact hs.tm t⟩

/-- A nil slice becomes a row of the call's own. -/
theorem awp_own {c : Code} (s id : Nat) (e : TypeId) (sz : Nat) (hsz : 0 < sz) (hs0 : σ.t s = .val (.slice none 0 0)) (hid : σ.h id = none)
    (h : AWP P n M0 w0 c N X R ⟨upd σ.t s (.own id), upd σ.h id (some ⟨e, sz, [], none⟩)⟩) : AWP P n M0 w0 c N X R σ := fun ρ a w hs => by
  have hB : Below w.heap.size w w := Below.refl _ _
  have hnew : ∀ k, (Value.slice none 0 0).ownBlock = some k → w.heap.size ≤ k := fun k hk => by simp [Value.ownBlock] at hk
  refine h (upd ρ id (.slice none 0 0)) a w ⟨hs.size, hs.defers, hs.hp.fresh hB hid rfl hnew ⟨fun x hx => by simp at hx, hsz, [], World.ownsRow_nil _ _ _ _, .nil⟩, fun t => ?_⟩
  by_cases ht : t = s
  · subst ht
    show RepT w _ _ _ (upd σ.t t (.own id) t) _
    rw [upd_same]
    have := hs.tm t
    rw [hs0] at this
    exact ⟨_, upd_same _ _ _, by rw [upd_same]; exact this.val_eq⟩
  · show RepT w _ _ _ (upd σ.t s (.own id) t) _
    rw [upd_ne _ _ ht]
    exact (hs.tm t).fresh hB hid hnew

/-- Own rows that are only read from here on. -/
theorem awp_freeze {c : Code} (ids : List Nat) (h : AWP P n M0 w0 c N X R ⟨fun t => match refId (σ.t t) with | some id => if id ∈ ids then frz σ.h (σ.t t) else σ.t t | none => σ.t t, eraseAll ids σ.h⟩) : AWP P n M0 w0 c N X R σ := fun ρ a w hs => by
  refine h ρ a w ⟨hs.size, hs.defers, hs.hp.erase ids, fun t => ?_⟩
  have ht := hs.tm t
  show RepT w _ ρ _ (match refId (σ.t t) with | some id => if id ∈ ids then frz σ.h (σ.t t) else σ.t t | none => σ.t t) _
  cases hid : refId (σ.t t) with
  | none => exact (RepT.of_rep ((RepT.rep hid ht).keep (Nat.le_refl _) (fun _ _ _ => rfl) (fun b _ hb => inM_erase hb)))
  | some id =>
    simp only
    split
    · rename_i hm
      exact RepT.of_rep (frz_rep hs.hp ht (fun i hi => by rw [hid] at hi; cases hi; exact hm))
    · rename_i hm
      refine ht.keep (Nat.le_refl _) (fun _ _ _ => rfl) (fun b _ hb => inM_erase hb) (fun i b hi hb => ⟨b, ?_, rfl, rfl, Nat.le_refl _⟩)
      rw [hid] at hi
      cases hi
      unfold eraseAll
      rw [if_neg hm]
      exact hb

/-! ### Functions -/
def args0 : List AV → Nat → List (Nat × AV)
  | [], _ => []
  | x :: xs, k => (k, x) :: args0 xs (k + 1)

theorem slook_args : ∀ (xs : List AV) (k t : Nat), slook (args0 xs k) t = if k ≤ t ∧ t < k + xs.length then xs.getD (t - k) .top else .top
  | [], k, t => by simp [args0, slook]
  | x :: xs, k, t => by
    have ih := slook_args xs (k + 1) t
    simp only [args0, slook, ih, List.length_cons]
    by_cases htk : t = k
    · subst htk; simp
    · rw [if_neg htk]
      by_cases h : k + 1 ≤ t ∧ t < k + 1 + xs.length
      · rw [if_pos h, if_pos (by omega), show t - k = (t - (k + 1)) + 1 by omega]
        simp
      · rw [if_neg h, if_neg (by omega)]

def Res (rs : List Nat) (σ : St) : AV := match rs with
  | [r] => frz σ.h (σ.t r)
  | rs => .tup (rs.map fun r => frz σ.h (σ.t r))

theorem sim_start {args : List AV} {vs : List Value} {M : Nat → Prop} {w : World} (hM : ∀ b, M b → b < w.heap.size) (hR : RepL w M args vs) (hl : args.length ≤ n) :
    Sim n M ⟨w, w.heap.size, fun _ => True, Nat.le_refl _⟩ (fun _ => undef) (st (args0 args 0) []) { tmps := vs.toArray ++ Array.replicate (n - vs.toArray.size) undef, defers := [] } w := by
  have hin : ∀ b, inM M (fun _ => undef) (hlook []) b → M b := fun b hb => by
    rcases hb with hb | ⟨i, bf, h1, _⟩
    · exact hb
    · cases h1
  refine ⟨by simp [← hR.1]; omega, rfl, ⟨⟨rfl, rfl, rfl, Nat.le_refl _, fun _ _ _ => rfl⟩, (fun id b k hb => by cases hb), (fun id b u hb => by cases hb), hM, (fun id b hb => by cases hb), (fun i j bi bj k _ hi => by cases hi)⟩, fun t => ?_⟩
  show RepT w _ _ _ (slook (args0 args 0) t) _
  rw [slook_args]
  split
  · rename_i ht
    have hlt : t < args.length := by omega
    have hvt : t < vs.length := by rw [← hR.1]; exact hlt
    have hx : args[t]? = some (args.getD (t - 0) .top) := by simp [List.getD_eq_getElem?_getD, List.getElem?_eq_getElem hlt]
    have hv : (vs.toArray ++ Array.replicate (n - vs.toArray.size) undef).getD t undef = vs[t] := by
      simp [Array.getD_eq_getD_getElem?, Array.getElem?_append, hvt]
    rw [hv]
    exact RepT.of_rep ((hR.2 t _ _ hx (List.getElem?_eq_getElem hvt)).keep (Nat.le_refl _) (fun _ _ _ => rfl) (fun b _ hb => hin b hb))
  · exact RepT.of_rep (.top _)

def valRes (rs : List Nat) (tmps : Array Value) : Value := match rs with
  | [r] => tmps.getD r undef
  | rs => .tuple (rs.map fun r => tmps.getD r undef).toArray

theorem results_of {fn : Func} {rs : List Nat} (hres : fn.results = (rs.map ResultVar.tmp).toArray) (tmps : Array Value) (w : World) :
    (results fn tmps).run P w = .ok (valRes rs tmps) w := by
  have key : ∀ (l : List Nat), (List.mapM (fun x => (match x with | .tmp t => pure (tmps.getD t undef) | .cell a t => do loadVar t (← asAddr (tmps.getD a undef)) : Sem Value)) (l.map ResultVar.tmp)).run P w = .ok (l.map fun r => tmps.getD r undef) w := by
    intro l
    induction l with
    | nil => rfl
    | cons r l ih =>
      simp only [List.map_cons, List.mapM_cons, Sem.run_bind, Sem.run_pure, Result.andThen, ih]
  have this : (Array.mapM (fun x => (match x with | .tmp t => pure (tmps.getD t undef) | .cell a t => do loadVar t (← asAddr (tmps.getD a undef)) : Sem Value)) (rs.map ResultVar.tmp).toArray).run P w = .ok (rs.map fun r => tmps.getD r undef).toArray w := by
    rw [List.mapM_toArray]
    show ((List.mapM _ (rs.map ResultVar.tmp) >>= fun l => pure l.toArray : Sem (Array Value))).run P w = _
    rw [Sem.run_bind, key]
    rfl
  have e : results fn tmps = (do
      let vs ← Array.mapM (fun x => (match x with | .tmp t => pure (tmps.getD t undef) | .cell a t => do loadVar t (← asAddr (tmps.getD a undef)) : Sem Value)) (rs.map ResultVar.tmp).toArray
      pure (if h : vs.size = 1 then vs[0] else .tuple vs) : Sem Value) := by
    rw [← hres]; rfl
  rw [e]
  simp only [Sem.run_bind, this, Result.andThen, Sem.run_pure]
  match rs with
  | [] => rfl
  | [r] => rfl
  | r :: s :: l => simp [valRes]

theorem res_rep {ρ : Nat → Value} {a : Act} {w : World} {rs : List Nat} (hs : Sim n M0 w0 ρ σ a w) :
    Rep w M0 (Res rs σ) (valRes rs a.tmps) := by
  have one : ∀ r, Rep w M0 (frz σ.h (σ.t r)) (a.tmps.getD r undef) := fun r =>
    (frz_rep (ids := (refId (σ.t r)).toList) hs.hp (hs.tm r) (fun id hid => by simp [hid])).keep (Nat.le_refl _) (fun _ _ _ => rfl) (fun b _ hb => .inl hb)
  have many : ∀ (l : List Nat), Rep w M0 (.tup (l.map fun r => frz σ.h (σ.t r))) (.tuple (l.map fun r => a.tmps.getD r undef).toArray) := fun l => by
    refine .tup _ _ (by simp) (fun i x v hx hv => ?_)
    simp at hx hv
    obtain ⟨r, h1, rfl⟩ := hx
    obtain ⟨r', h2, rfl⟩ := hv
    rw [h1] at h2
    cases h2
    exact (by simpa using one r)
  match rs with
  | [] => exact many []
  | [r] => exact one r
  | r :: s :: l => exact many (r :: s :: l)

theorem pure_of_awp {f : FuncId} {fn : Func} {c : Code} {sp : List AV → Option AV} (rs : List Nat) (hf : P.funcs[f]? = some fn) (hb : fn.body = some c) (hn : fn.ntmps = n) (hres : fn.results = (rs.map ResultVar.tmp).toArray) 
    (h : ∀ (M0 : Nat → Prop) (w0 : Bs) (args : List AV) (r : AV), sp args = some r → args.length ≤ n ∧ AWP P n M0 w0 c (fun σ => Res rs σ = r) (fun _ _ => False) (fun σ => Res rs σ = r) (st (args0 args 0) [])) :
    PureOK P f sp := by
  intro M args vs w r hM hR hr
  obtain ⟨hl, hA⟩ := h M ⟨w, w.heap.size, fun _ => True, Nat.le_refl _⟩ args r hr
  refine calls_of_wp hf hb ?_
  rw [hn]
  refine wp_mono (hA _ _ _ (sim_start hM hR hl)) fun e a w' q => ?_
  have fin : ∀ {ρ σ}, Sim n M ⟨w, w.heap.size, fun _ => True, Nat.le_refl _⟩ ρ σ a w' → Res rs σ = r → a.defers = [] ∧ ∃ v, (results fn a.tmps).run P w' = .ok v w' ∧ ∃ v', Ending.returned v = .returned v' ∧ Rep w' M r v' ∧ Below w.heap.size w w' := by
    intro ρ σ hs hrs
    refine ⟨hs.defers, _, results_of hres a.tmps w', _, rfl, ?_, ⟨hs.hp.below.os, hs.hp.below.tape, hs.hp.below.output, hs.hp.below.size, fun k hk => hs.hp.below.block k hk trivial⟩⟩
    rw [← hrs]
    exact res_rep hs
  cases e with
  | normal => obtain ⟨ρ, σ, h1, h2⟩ := q; exact fin h1 h2
  | ret => obtain ⟨ρ, σ, h1, h2⟩ := q; exact fin h1 h2
  | exit i => obtain ⟨ρ, σ, h1, h2⟩ := q; exact h2.elim
  | goto l => exact q.elim
  | panic c => exact q.elim
  | outgrown => exact q.elim

end
end Go.Abs
