/- A region that draws its order: any order comes to what the text's comes to. -/
import Derived.Test.YtjnejhlnhapogaaAbs15
namespace Go.Abs
open Go Go.RowKit
set_option linter.unusedVariables false
set_option linter.unusedSimpArgs false

section
variable {P : Program} {Θ : TypeId → Sh} {Γ : FuncId → Spec} {n : Nat} {M0 : Nat → Prop} {w0 : Bs}

def readsB (o : Oper) (d : Option Nat) : Bool := match d with
  | some d => o.op.operands.any fun | .tmp t => t == d | _ => false
  | none => false
def sameDst (a b : Option Nat) : Bool := match a, b with
  | some a, some b => a == b
  | _, _ => false
def confB (o p : Oper) : Bool :=
  readsB o p.dst || readsB p o.dst || sameDst o.dst p.dst || (isStore o.op && !kindF p.op) || (isStore p.op && !kindF o.op)

theorem ev_set {σ : St} {o : Oper} {d : Option Nat} {v : AV} (h : readsB o d = false) : ∀ x ∈ o.op.operands, ev (σ.set d v) x = ev σ x := by
  intro x hx
  cases d with
  | none => rfl
  | some d =>
    cases x with
    | tmp t =>
      have : (t == d) = false := by
        unfold readsB at h
        rw [Array.any_eq_false'] at h
        have := h _ hx
        simpa using this
      have hne : t ≠ d := by simpa using this
      simp [ev, St.set, upd, hne]
    | _ => rfl

theorem ev_h {σ : St} {h' : Hp} (x : Operand) : ev ⟨σ.t, h'⟩ x = ev σ x := by cases x <;> rfl

theorem set_comm {σ : St} {d e : Option Nat} {u v : AV} (h : sameDst d e = false) : (σ.set d u).set e v = (σ.set e v).set d u := by
  cases d with
  | none => rfl
  | some d =>
    cases e with
    | none => rfl
    | some e =>
      have hne : d ≠ e := by simpa [sameDst] using h
      simp only [St.set, St.mk.injEq, and_true]
      funext j
      simp only [upd]
      by_cases h1 : j = e
      · subst h1; simp [Ne.symm hne]
      · by_cases h2 : j = d <;> simp [h1, h2, hne]

theorem sameDst_comm (a b : Option Nat) : sameDst a b = sameDst b a := by
  cases a with
  | none => cases b <;> rfl
  | some a => cases b with
    | none => rfl
    | some b =>
      simp only [sameDst]
      by_cases h : a = b
      · subst h; rfl
      · rw [beq_eq_false_iff_ne.2 h, beq_eq_false_iff_ne.2 (Ne.symm h)]

/-- Two operations that don't meet may change places. -/
theorem astepD_comm {o p : Oper} {σ σ1 σ2 : St} (hc : confB o p = false) (h1 : astepD Θ Γ o σ = some σ1) (h2 : astepD Θ Γ p σ1 = some σ2) :
    ∃ τ, astepD Θ Γ p σ = some τ ∧ astepD Θ Γ o τ = some σ2 := by
  simp only [confB, Bool.or_eq_false_iff] at hc
  obtain ⟨⟨⟨⟨c1, c2⟩, c3⟩, c4⟩, c5⟩ := hc
  rcases astepD_local h1 with ⟨s1, v1, rfl, l1⟩ | ⟨s1, d1, h1', rfl, l1⟩
  · rcases astepD_local h2 with ⟨s2, v2, rfl, l2⟩ | ⟨s2, d2, h2', rfl, l2⟩
    · have e2 : ∀ x ∈ p.op.operands, ev σ x = ev (σ.set o.dst v1) x := fun x hx => (ev_set c2 x hx).symm
      refine ⟨σ.set p.dst v2, l2 σ e2 (.inr (by rw [St.set_h])), ?_⟩
      rw [l1 (σ.set p.dst v2) (fun x hx => ev_set c1 x hx) (.inr (by rw [St.set_h])), set_comm (by rw [sameDst_comm]; exact c3)]
    · have hF : kindF o.op = true := by simpa [s2] using c5
      have e2 : ∀ x ∈ p.op.operands, ev σ x = ev (σ.set o.dst v1) x := fun x hx => (ev_set c2 x hx).symm
      refine ⟨⟨σ.t, h2'⟩, l2 σ e2 (by rw [St.set_h]), ?_⟩
      rw [l1 ⟨σ.t, h2'⟩ (fun x hx => ev_h x) (.inl hF)]
      cases hd : o.dst <;> rfl
  · rcases astepD_local h2 with ⟨s2, v2, rfl, l2⟩ | ⟨s2, d2, h2', rfl, l2⟩
    · have hF : kindF p.op = true := by simpa [s1] using c4
      refine ⟨σ.set p.dst v2, l2 σ (fun x hx => (ev_h x).symm) (.inl hF), ?_⟩
      rw [l1 (σ.set p.dst v2) (fun x hx => ev_set c1 x hx) (by rw [St.set_h])]
      cases hd : p.dst <;> rfl
    · exfalso
      have : kindF p.op = false := by
        cases hp : p.op <;> simp [isStore, hp] at s2 <;> rfl
      simp [s1, this] at c4

def runL (Θ : TypeId → Sh) (Γ : FuncId → Spec) (ops : Array Oper) : List Nat → St → Option St
  | [], σ => some σ
  | i :: l, σ => match ops[i]? with
    | some o => match astepD Θ Γ o σ with
      | some σ' => runL Θ Γ ops l σ'
      | none => none
    | none => none

def confI (ops : Array Oper) (i j : Nat) : Bool := match ops[i]?, ops[j]? with
  | some o, some p => confB o p
  | _, _ => false

theorem run_front {ops : Array Oper} {i : Nat} {ks : List Nat} {σm : St} : ∀ (js : List Nat) (σ : St), (∀ j ∈ js, confI ops j i = false) → runL Θ Γ ops (js ++ i :: ks) σ = some σm → runL Θ Γ ops (i :: js ++ ks) σ = some σm
  | [], σ, _, h => h
  | j :: js, σ, hc, h => by
    simp only [List.cons_append, runL] at h
    split at h
    · rename_i o ho
      split at h
      · rename_i σ1 h1
        have ih := run_front js σ1 (fun x hx => hc x (by simp [hx])) h
        simp only [List.cons_append, runL] at ih
        split at ih
        · rename_i p hp
          split at ih
          · rename_i σ2 h2
            have hcf := hc j (by simp)
            unfold confI at hcf
            rw [ho, hp] at hcf
            obtain ⟨τ, k1, k2⟩ := astepD_comm hcf h1 h2
            simp only [List.cons_append, runL, hp, k1, ho, k2]
            exact ih
          · cases ih
        · cases ih
      · cases h
    · cases h

/-- Does operation `d` wait for operation `i`? -/
def waitsB (ops : Array Oper) (i : Nat) : Nat → Nat → Bool
  | 0, _ => false
  | fuel + 1, d => match ops[d]? with
    | some o => o.after.any fun e => Region.binds .any e && (e.on == i || waitsB ops i fuel e.on)
    | none => false

def drawOk (ops : Array Oper) : Bool :=
  (List.range ops.size).all fun j => (match ops[j]? with | some o => o.guard.isNone && o.after.all (fun e => !Region.binds .any e || decide (e.on < j)) | none => true) &&
    (List.range j).all fun i => !confI ops i j || waitsB ops i ops.size j

def remL (ops : Array Oper) (listed : Array Bool) : List Nat := (List.range ops.size).filter fun i => !listed.getD i true

def closedL (ops : Array Oper) (listed : Array Bool) : Prop := ∀ j o, ops[j]? = some o → listed.getD j false = true → ∀ e ∈ o.after, Region.binds .any e = true → listed.getD e.on false = true

theorem waits_listed {ops : Array Oper} {listed : Array Bool} {i : Nat} (hc : closedL ops listed) : ∀ (fuel d : Nat), waitsB ops i fuel d = true → (∀ o, ops[d]? = some o → ∀ e ∈ o.after, Region.binds .any e = true → listed.getD e.on false = true) → listed.getD i false = true
  | 0, _, h, _ => by simp [waitsB] at h
  | fuel + 1, d, h, hd => by
    unfold waitsB at h
    split at h
    · rename_i o ho
      obtain ⟨e, he, h1⟩ := Array.any_eq_true'.1 h
      simp only [Bool.and_eq_true, Bool.or_eq_true, beq_iff_eq] at h1
      have hl := hd o ho e he h1.1
      rcases h1.2 with h2 | h2
      · rw [← h2]; exact hl
      · exact waits_listed hc fuel e.on h2 (fun o' ho' => hc e.on o' ho' hl)
    · cases h

theorem filter_split {p : Nat → Bool} {i : Nat} : ∀ {l : List Nat}, l.Pairwise (· < ·) → i ∈ l → p i = true →
    ∃ js ks, l.filter p = js ++ i :: ks ∧ (∀ j ∈ js, j < i ∧ j ∈ l ∧ p j = true) ∧ l.filter (fun x => p x && x != i) = js ++ ks
  | x :: l, hp, hi, h => by
    have hp' := List.pairwise_cons.1 hp
    rcases List.mem_cons.1 hi with rfl | hi
    · refine ⟨[], l.filter p, by simp [h], by simp, ?_⟩
      rw [List.filter_cons, if_neg (by simp), List.nil_append]
      refine List.filter_congr fun y hy => ?_
      have := hp'.1 y hy
      have hne : y ≠ i := by omega
      simp [hne]
    · obtain ⟨js, ks, h1, h2, h3⟩ := filter_split hp'.2 hi h
      have hlt := hp'.1 i hi
      have hne : x ≠ i := by omega
      by_cases hx : p x = true
      · refine ⟨x :: js, ks, by simp [List.filter_cons, hx, h1], fun j hj => ?_, by simp [List.filter_cons, hx, hne, h3]⟩
        rcases List.mem_cons.1 hj with rfl | hj
        · exact ⟨hlt, by simp, hx⟩
        · exact ⟨(h2 j hj).1, by simp [(h2 j hj).2.1], (h2 j hj).2.2⟩
      · refine ⟨js, ks, by simp [List.filter_cons, hx, h1], fun j hj => ⟨(h2 j hj).1, by simp [(h2 j hj).2.1], (h2 j hj).2.2⟩, by simp [List.filter_cons, hx, h3]⟩

theorem rem_set {ops : Array Oper} {listed : Array Bool} {i : Nat} (hl : listed.size = ops.size) (hi : i < ops.size) : remL ops (listed.setIfInBounds i true) = (List.range ops.size).filter fun x => !listed.getD x true && x != i := by
  unfold remL
  refine List.filter_congr fun x hx => ?_
  by_cases hxi : x = i
  · subst hxi
    simp [hl, hi]
  · have : (listed.setIfInBounds i true).getD x true = listed.getD x true := getD_set_ne true (Ne.symm hxi)
    rw [this]
    simp [hxi]

variable {N : St → Prop} {X : Nat → St → Prop} {R : St → Prop}

theorem any_sound (hΘ : ∀ t, ShOK P t (Θ t)) (hΓ : ∀ f, SpecOK P f (Γ f)) {ops : Array Oper} (hd : dstsOk n ops.toList = true) (hok : drawOk ops = true) {σm : St} (hN : N σm) :
    ∀ (fuel : Nat) (listed : Array Bool) (σ : St) (ρ : Nat → Value) (a : Act) (w : World), listed.size = ops.size → closedL ops listed → (remL ops listed).length ≤ fuel → Sim n M0 w0 ρ σ a w → runL Θ Γ ops (remL ops listed) σ = some σm →
      wpAny P .any ops (Post n M0 w0 N X R) fuel listed a w := by
  have hrdy : ∀ (listed : Array Bool), listed.size = ops.size → Region.ready .any ops listed = [] → remL ops listed = [] := by
    intro listed hsz hr
    cases hrem : remL ops listed with
    | nil => rfl
    | cons i l =>
      exfalso
      have hi : i ∈ remL ops listed := by rw [hrem]; simp
      obtain ⟨hi1, hi2⟩ := List.mem_filter.1 hi
      have hilt : i < ops.size := List.mem_range.1 hi1
      have hmin : ∀ j, j < i → listed.getD j true = true := by
        intro j hj
        cases hq : listed.getD j true with
        | true => rfl
        | false =>
          exfalso
          have hjm : j ∈ remL ops listed := List.mem_filter.2 ⟨List.mem_range.2 (by omega), by rw [hq]; rfl⟩
          have hpw : (remL ops listed).Pairwise (· < ·) := List.Pairwise.filter _ List.pairwise_lt_range
          rw [hrem] at hpw hjm
          rcases List.mem_cons.1 hjm with rfl | hjm
          · omega
          · have := (List.pairwise_cons.1 hpw).1 j hjm; omega
      have : i ∈ Region.ready .any ops listed := by
        rw [mem_ready]
        refine ⟨by simpa using hi2, ops[i], by simp [hilt], fun e he hb => ?_⟩
        have h1 := List.all_eq_true.1 hok i (List.mem_range.2 hilt)
        simp only [Bool.and_eq_true] at h1
        have h2 := h1.1
        rw [Array.getElem?_eq_getElem hilt] at h2
        simp only [Bool.and_eq_true] at h2
        have h3 := Array.all_eq_true_iff_forall_mem.1 h2.2 e he
        simp only [hb, Bool.not_true, Bool.false_or, decide_eq_true_eq] at h3
        have h4 := hmin e.on h3
        have hlt : e.on < listed.size := by omega
        simpa [hlt] using h4
      rw [hr] at this
      cases this
  intro fuel
  induction fuel with
  | zero =>
    intro listed σ ρ a w hsz hcl hf hs hrun
    have hrem : remL ops listed = [] := List.eq_nil_of_length_eq_zero (by omega)
    rw [hrem] at hrun
    cases hrun
    refine ⟨?_, ⟨ρ, σm, hs, hN⟩⟩
    cases hr : Region.ready .any ops listed with
    | nil => rfl
    | cons i l =>
      exfalso
      have hi : i ∈ Region.ready .any ops listed := by rw [hr]; simp
      obtain ⟨h1, o, ho, _⟩ := mem_ready.1 hi
      have : i ∈ remL ops listed := List.mem_filter.2 ⟨List.mem_range.2 (Array.getElem?_eq_some_iff.1 ho).1, by rw [h1]; rfl⟩
      rw [hrem] at this
      cases this
  | succ fuel ih =>
    intro listed σ ρ a w hsz hcl hf hs hrun
    refine ⟨fun hr => ?_, fun i hi => ?_⟩
    · rw [hrdy listed hsz hr] at hrun
      cases hrun
      exact ⟨ρ, σm, hs, hN⟩
    · obtain ⟨hiu, o, ho, hpre⟩ := mem_ready.1 hi
      have hilt : i < ops.size := (Array.getElem?_eq_some_iff.1 ho).1
      obtain ⟨js, ks, e1, e2, e3⟩ := filter_split (p := fun x => !listed.getD x true) (i := i) List.pairwise_lt_range (List.mem_range.2 hilt) (by rw [hiu]; rfl)
      have hconf : ∀ j ∈ js, confI ops j i = false := by
        intro j hj
        obtain ⟨q1, q2, q3⟩ := e2 j hj
        cases hq : confI ops j i with
        | false => rfl
        | true =>
          exfalso
          have h1 := List.all_eq_true.1 hok i (List.mem_range.2 hilt)
          simp only [Bool.and_eq_true] at h1
          have h2 := List.all_eq_true.1 h1.2 j (List.mem_range.2 q1)
          rw [hq] at h2
          simp only [Bool.not_true, Bool.false_or] at h2
          have h3 := waits_listed hcl _ _ h2 (fun o' ho' e he hb => by rw [ho] at ho'; cases ho'; exact hpre e he hb)
          have hjlt : j < listed.size := by rw [hsz]; exact List.mem_range.1 q2
          simp [hjlt] at h3 q3
          rw [h3] at q3
          cases q3
      have hrun' : runL Θ Γ ops (js ++ i :: ks) σ = some σm := by rw [← e1]; exact hrun
      have hfr := run_front js σ hconf hrun'
      simp only [List.cons_append, runL, ho] at hfr
      split at hfr
      · rename_i σ1 h1
        have hgd : o.guard = none := by
          have h1 := List.all_eq_true.1 hok i (List.mem_range.2 hilt)
          simp only [Bool.and_eq_true] at h1
          have h2 := h1.1
          rw [ho] at h2
          simp only [Bool.and_eq_true, Option.isNone_iff_eq_none] at h2
          exact h2.1
        have hdo : ∀ t, o.dst = some t → t < n := fun t ht => by
          have := List.all_eq_true.1 hd o (by simpa using Array.mem_of_getElem? ho)
          rw [ht] at this
          simpa using this
        unfold wpOp
        simp only [ho]
        rw [if_pos (by simp [Region.wanted, hgd])]
        refine .inl (Oper.wp_mono (fun a' w' ⟨ρ', hs'⟩ => ?_) (astep_sound hΘ hΓ hdo hs (astepD_step h1)))
        refine ih _ σ1 ρ' a' w' (by simpa using hsz) ?_ ?_ hs' ?_
        · intro j oj hj hl e he hb
          by_cases hij : i = j
          · subst hij
            rw [ho] at hj
            cases hj
            exact getD_set_true (hpre e he hb)
          · rw [getD_set_ne false hij] at hl
            exact getD_set_true (hcl j oj hj hl e he hb)
        · rw [rem_set hsz hilt, e3]
          have : (remL ops listed).length = (js ++ i :: ks).length := by rw [← e1]; rfl
          simp at this ⊢
          omega
        · rw [rem_set hsz hilt, e3]
          exact hfr
      · cases hfr


def arunD (Θ : TypeId → Sh) (Γ : FuncId → Spec) : List Oper → St → (St → Prop) → Prop
  | [], σ, K => K σ
  | o :: rest, σ, K => ∃ σ', astepD Θ Γ o σ = some σ' ∧ arunD Θ Γ rest σ' K
theorem arunD_nil {K : St → Prop} {σ : St} (h : K σ) : arunD Θ Γ [] σ K := h
theorem arunD_step {K : St → Prop} {σ σ' : St} {o : Oper} {rest : List Oper} (h : astepD Θ Γ o σ = some σ') (k : arunD Θ Γ rest σ' K) : arunD Θ Γ (o :: rest) σ K := ⟨σ', h, k⟩
theorem arunD_if {K : St → Prop} {σ σ' : St} {o : Oper} {rest : List Oper} {c : Prop} {i : Decidable c} (h : astepD Θ Γ o σ = @ite _ c i (some σ') none) (hc : c) (k : arunD Θ Γ rest σ' K) : arunD Θ Γ (o :: rest) σ K :=
  ⟨σ', by rw [h, if_pos hc], k⟩
theorem arunD_ifn {K : St → Prop} {σ σ' : St} {o : Oper} {rest : List Oper} {c : Prop} {i : Decidable c} (h : astepD Θ Γ o σ = @ite _ c i none (some σ')) (hc : ¬ c) (k : arunD Θ Γ rest σ' K) : arunD Θ Γ (o :: rest) σ K :=
  ⟨σ', by rw [h, if_neg hc], k⟩

theorem arunD_run {ops : Array Oper} {K : St → Prop} : ∀ (l : List Oper) (k : Nat) (σ : St), (∀ j, l[j]? = ops[k + j]?) → arunD Θ Γ l σ K → ∃ σm, runL Θ Γ ops (List.range' k l.length) σ = some σm ∧ K σm
  | [], k, σ, _, h => ⟨σ, rfl, h⟩
  | o :: l, k, σ, hl, h => by
    obtain ⟨σ', h1, h2⟩ := h
    have h0 : ops[k]? = some o := by simpa using (hl 0).symm
    obtain ⟨σm, h3, h4⟩ := arunD_run l (k + 1) σ' (fun j => by have := hl (j + 1); simpa [Nat.add_assoc, Nat.add_comm 1 j] using this) h2
    refine ⟨σm, ?_, h4⟩
    simp only [List.length_cons, List.range'_succ, runL, h0, h1]
    exact h3

theorem awp_draw {id : Nat} {l : List Oper} {σ : St} (live : List Nat) (hΘ : ∀ t, ShOK P t (Θ t)) (hΓ : ∀ f, SpecOK P f (Γ f)) (hm : P.follows .mixedOrders = true) (hd : dstsOk n l = true) (hok : drawOk l.toArray = true)
    (h : arunD Θ Γ l σ fun σ' => N ⟨slook (pickT live σ'.t), σ'.h⟩) : AWP P n M0 w0 (.region id l.toArray true) N X R σ := fun ρ a w hs => by
  obtain ⟨σm, h1, h2⟩ := arunD_run (ops := l.toArray) l 0 σ (by simp) h
  have hsd : Sim n M0 w0 ρ σ a { w with drawn := w.drawn + 1 } := by
    have hB : Below w.heap.size w { w with drawn := w.drawn + 1 } := ⟨rfl, rfl, rfl, Nat.le_refl _, fun _ _ => rfl⟩
    exact ⟨hs.size, hs.defers, hs.hp.grow hB, fun t => (hs.tm t).grow hB⟩
  have hrem : remL l.toArray (Array.replicate l.toArray.size false) = List.range' 0 l.length := by
    unfold remL
    rw [List.filter_eq_self.2 (fun x hx => by
      have := List.mem_range.1 hx
      simp at this
      simp [this]), List.range_eq_range']
    simp
  have key := any_sound (P := P) (M0 := M0) (w0 := w0) (N := fun σ => N ⟨slook (pickT live σ.t), σ.h⟩) (X := X) (R := R) hΘ hΓ (ops := l.toArray) (by simpa using hd) hok h2 l.toArray.size (Array.replicate l.toArray.size false) σ ρ a { w with drawn := w.drawn + 1 } (by simp)
    (fun j o hj hl => by
      exfalso
      rcases Nat.lt_or_ge j l.toArray.size with h | h
      · simp at h; simp [h] at hl
      · simp at h; simp [h] at hl) (by rw [hrem]; simp) hsd (by rw [hrem]; exact h1)
  refine wp_mono (wp_region_any hm key) fun e a w q => ?_
  cases e with
  | normal =>
    obtain ⟨ρ, σ, h1, h2⟩ := q
    exact ⟨ρ, _, h1.forget (fun p hp => by
      obtain ⟨s, _, rfl⟩ := List.mem_map.1 hp
      rfl), h2⟩
  | _ => exact q

attribute [go_sem] kill List.length_nil List.length_cons List.nil_append List.append_nil ne_eq not_false_eq_true not_true_eq_false Option.isNone_some
attribute [go_sem] astepD kindA isStore kindF or_false false_or and_false false_and if_true if_false List.isEmpty_nil Bool.false_eq_true

end
end Go.Abs
