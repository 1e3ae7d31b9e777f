/- Code on the abstract state. -/
import Derived.Test.YtjnejhlnhapogaaAbs11
import Derived.Orders
namespace Go.Abs
open Go Go.RowKit
set_option linter.unusedVariables false
set_option linter.unusedSimpArgs false

section
variable {P : Program} {Θ : TypeId → Sh} {Γ : FuncId → Spec} {n : Nat} {M0 : Nat → Prop} {w0 : Bs}

def Post (n : Nat) (M0 : Nat → Prop) (w0 : Bs) (N : St → Prop) (X : Nat → St → Prop) (R : St → Prop) : Exit → Act → World → Prop
  | .normal, a, w => ∃ ρ σ, Sim n M0 w0 ρ σ a w ∧ N σ
  | .exit i, a, w => ∃ ρ σ, Sim n M0 w0 ρ σ a w ∧ X i σ
  | .ret, a, w => ∃ ρ σ, Sim n M0 w0 ρ σ a w ∧ R σ
  | _, _, _ => False

/-- From this abstract state the code ends as it is told. -/
def AWP (P : Program) (n : Nat) (M0 : Nat → Prop) (w0 : Bs) (c : Code) (N : St → Prop) (X : Nat → St → Prop) (R : St → Prop) (σ : St) : Prop :=
  ∀ ρ a w, Sim n M0 w0 ρ σ a w → c.wp P (Post n M0 w0 N X R) a w

variable {N N' : St → Prop} {X X' : Nat → St → Prop} {R R' : St → Prop} {σ σ' : St}

theorem AWP.mono {c : Code} (h : AWP P n M0 w0 c N X R σ) (hN : ∀ σ, N σ → N' σ) (hX : ∀ i σ, X i σ → X' i σ) (hR : ∀ σ, R σ → R' σ) : AWP P n M0 w0 c N' X' R' σ := fun ρ a w hs =>
  wp_mono (h ρ a w hs) fun e a w q => by
    cases e with
    | normal => obtain ⟨ρ, σ, h1, h2⟩ := q; exact ⟨ρ, σ, h1, hN _ h2⟩
    | exit i => obtain ⟨ρ, σ, h1, h2⟩ := q; exact ⟨ρ, σ, h1, hX _ _ h2⟩
    | ret => obtain ⟨ρ, σ, h1, h2⟩ := q; exact ⟨ρ, σ, h1, hR _ h2⟩
    | goto l => exact q
    | panic c => exact q
    | outgrown => exact q

theorem awp_seq {x y : Code} (h : AWP P n M0 w0 x (fun σ => AWP P n M0 w0 y N X R σ) X R σ) : AWP P n M0 w0 (.seq x y) N X R σ := fun ρ a w hs =>
  wp_seq (wp_mono (h ρ a w hs) fun e a w q => by
    cases e with
    | normal => obtain ⟨ρ, σ, h1, h2⟩ := q; exact h2 ρ a w h1
    | exit i => exact q
    | ret => exact q
    | goto l => exact q
    | panic c => exact q
    | outgrown => exact q)
theorem awp_skip (h : N σ) : AWP P n M0 w0 .skip N X R σ := fun ρ a w hs => wp_skip ⟨ρ, σ, hs, h⟩
theorem awp_ret (h : R σ) : AWP P n M0 w0 .ret N X R σ := fun ρ a w hs => wp_ret ⟨ρ, σ, hs, h⟩
theorem awp_exit {i : Nat} (h : X i σ) : AWP P n M0 w0 (.exit i) N X R σ := fun ρ a w hs => wp_exit ⟨ρ, σ, hs, h⟩
theorem awp_block {i : Nat} {c : Code} (h : AWP P n M0 w0 c N (fun j σ => if j = i then N σ else X j σ) R σ) : AWP P n M0 w0 (.block i c) N X R σ := fun ρ a w hs =>
  wp_block (wp_mono (h ρ a w hs) fun e a w q => by
    cases e with
    | normal => exact q
    | exit j =>
      obtain ⟨ρ, σ, h1, h2⟩ := q
      simp only [Exit.inBlock]
      split
      · rename_i hj
        simp only [hj, if_true] at h2
        exact ⟨ρ, σ, h1, h2⟩
      · rename_i hj
        simp only [hj, if_false] at h2
        exact ⟨ρ, σ, h1, h2⟩
    | ret => exact q
    | goto l => exact q
    | panic c => exact q
    | outgrown => exact q)
theorem awp_cond {c : Operand} {x y : Code} {b : Bool} (hc : ev σ c = .val (.bool b)) (ht : b = true → AWP P n M0 w0 x N X R σ) (hf : b = false → AWP P n M0 w0 y N X R σ) : AWP P n M0 w0 (.cond c x y) N X R σ := fun ρ a w hs =>
  wp_cond_split (ev_val hs hc) (fun h => ht h ρ a w hs) (fun h => hf h ρ a w hs)
theorem awp_cond_any {c : Operand} {x y : Code} (hc : ev σ c = .anyb) (ht : AWP P n M0 w0 x N X R σ) (hf : AWP P n M0 w0 y N X R σ) : AWP P n M0 w0 (.cond c x y) N X R σ := fun ρ a w hs => by
  have hr := ev_rep hs c
  rw [hc] at hr
  have hr : Rep w _ .anyb (a.eval c) := hr
  generalize hv : a.eval c = v at hr
  cases hr with
  | anyb b => exact wp_cond_split hv (fun _ => ht ρ a w hs) (fun _ => hf ρ a w hs)
theorem awp_label {l : Nat} (h : N σ) : AWP P n M0 w0 (.label l) N X R σ := fun ρ a w hs b k cs => ⟨.normal, a, w, ⟨ρ, σ, hs, h⟩, .one step_label⟩

theorem awp_loop {c : Code} (I : St → Prop) (μ : St → Nat) (h0 : I σ) (hr : ∀ σ, I σ → AWP P n M0 w0 c (fun σ' => I σ' ∧ μ σ' < μ σ) X R σ) : AWP P n M0 w0 (.loop c) N X R σ := by
  intro ρ a w hs
  -- the measure of an abstract state, by the relation
  have key : ∀ (m : Nat) ρ σ a w, Sim n M0 w0 ρ σ a w → I σ → μ σ = m → ∀ (b : Frame) (k : List Item) (cs : List Frame),
      ∃ e a' w', Post n M0 w0 N X R e a' w' ∧ Arrives P (lone (b.at a (.code c :: .inLoop c :: k)) cs w) b k cs e a' w' := by
    intro m
    induction m using Nat.strongRecOn with
    | _ m ih =>
      intro ρ σ a w hs hI hm b k cs
      obtain ⟨e, a1, w1, hq, harr⟩ := hr σ hI ρ a w hs b (.inLoop c :: k) cs
      cases e with
      | normal =>
        obtain ⟨ρ1, σ1, h1, h2, h3⟩ := hq
        obtain ⟨e2, a2, w2, hq2, harr2⟩ := ih (μ σ1) (hm ▸ h3) ρ1 σ1 a1 w1 h1 h2 rfl b k cs
        exact ⟨e2, a2, w2, hq2, .of_steps (Steps.trans harr (.one step_inLoop)) harr2⟩
      | exit id => exact ⟨.exit id, a1, w1, (show Post n M0 w0 N X R (.exit id) a1 w1 from hq), .pass (x := .inLoop c) rfl (fun _ _ => .inl (by simp)) harr⟩
      | ret => exact ⟨.ret, a1, w1, (show Post n M0 w0 N X R .ret a1 w1 from hq), .pass (x := .inLoop c) rfl (fun _ _ => .inl (by simp)) harr⟩
      | goto l => exact hq.elim
      | panic ch => exact hq.elim
      | outgrown => exact hq.elim
  intro b k cs
  obtain ⟨e, a', w', hq, harr⟩ := key _ ρ σ a w hs h0 rfl b k cs
  exact ⟨e, a', w', hq, .of_steps (.one step_loop) harr⟩

/-! ### A region in the order of its text -/
def dstsOk (n : Nat) (ops : List Oper) : Bool := ops.all fun o => match o.dst with | some d => decide (d < n) | none => true

def guardTmp (ops : Array Oper) (g : Nat) : Option Nat := (ops[g]?).bind (·.dst)

def arun (Θ : TypeId → Sh) (Γ : FuncId → Spec) (all : Array Oper) : List Oper → St → (St → Prop) → Prop
  | [], σ, K => K σ
  | o :: rest, σ, K => match o.guard with
    | none => ∃ σ', astep Θ Γ o σ = some σ' ∧ arun Θ Γ all rest σ' K
    | some (g, want) => match guardTmp all g with
      | some d => ∃ b, σ.t d = .val (.bool b) ∧ (b = want → ∃ σ', astep Θ Γ o σ = some σ' ∧ arun Θ Γ all rest σ' K) ∧ (b ≠ want → arun Θ Γ all rest (σ.set o.dst .top) K)
      | none => False

theorem yielded_of {ρ : Nat → Value} {a : Act} {w : World} {ops : Array Oper} {g d : Nat} {b : Bool} (hs : Sim n M0 w0 ρ σ a w) (hg : guardTmp ops g = some d) (hb : σ.t d = .val (.bool b)) : yielded ops a.tmps g = some b := by
  have h1 := hs.tm d
  rw [hb] at h1
  have h2 := h1.val_eq
  unfold yielded
  unfold guardTmp at hg
  rw [hg]
  have h3 : a.tmps[d]? = some (.bool b) := by
    cases hq : a.tmps[d]? with
    | none => simp [hq, undef] at h2
    | some u => simp [hq] at h2; rw [h2]
  simp [h3]

theorem arun_sound (hΘ : ∀ t, ShOK P t (Θ t)) (hΓ : ∀ f, SpecOK P f (Γ f)) {ops : Array Oper} {K : St → Prop} : ∀ (l : List Oper) (σ : St) (ρ : Nat → Value) (a : Act) (w : World), dstsOk n l = true → Sim n M0 w0 ρ σ a w →
    arun Θ Γ ops l σ K → wpList P ops (Post n M0 w0 K X R) l a w
  | [], σ, ρ, a, w, _, hs, h => wpList_nil ⟨ρ, σ, hs, h⟩
  | o :: l, σ, ρ, a, w, hd, hs, h => by
    simp only [dstsOk, List.all_cons, Bool.and_eq_true] at hd
    have hdo : ∀ t, o.dst = some t → t < n := fun t ht => by
      have := hd.1
      rw [ht] at this
      simpa using this
    have step : ∀ σ', astep Θ Γ o σ = some σ' → arun Θ Γ ops l σ' K → o.wp P a w (wpList P ops (Post n M0 w0 K X R) l) (Post n M0 w0 K X R) := fun σ' h1 h2 =>
      Oper.wp_mono (fun a' w' ⟨ρ', hs'⟩ => arun_sound hΘ hΓ l σ' ρ' a' w' hd.2 hs' h2) (astep_sound hΘ hΓ hdo hs h1)
    unfold arun at h
    unfold wpList
    cases hg : o.guard with
    | none =>
      rw [hg] at h
      obtain ⟨σ', h1, h2⟩ := h
      rw [if_pos (by simp [Region.wanted, hg])]
      exact .inl (step σ' h1 h2)
    | some gw =>
      obtain ⟨g, want⟩ := gw
      rw [hg] at h
      simp only at h
      cases hgt : guardTmp ops g with
      | none => rw [hgt] at h; exact h.elim
      | some d =>
        rw [hgt] at h
        obtain ⟨b, hb, ht, hf⟩ := h
        have hy := yielded_of hs hgt hb
        have hwn : Region.wanted o (yielded ops a.tmps) = (b == want) := by simp [Region.wanted, hg, hy]
        by_cases hbw : b = want
        · rw [if_pos (by rw [hwn]; simp [hbw])]
          obtain ⟨σ', h1, h2⟩ := ht hbw
          exact .inl (step σ' h1 h2)
        · rw [if_neg (by rw [hwn]; simp [hbw])]
          exact arun_sound hΘ hΓ l _ ρ _ w hd.2 (hs.put_same hdo (RepT.of_rep (.top _))) (hf hbw)

/-! ### What is forgotten -/
def slook : List (Nat × AV) → Nat → AV
  | [], _ => .top
  | (k, v) :: r, j => if j = k then v else slook r j
def pickT (live : List Nat) (t : Nat → AV) : List (Nat × AV) := live.map fun s => (s, t s)

theorem slook_or : ∀ (L : List (Nat × AV)) (t : Nat), slook L t = .top ∨ ∃ v, (t, v) ∈ L ∧ slook L t = v
  | [], t => .inl rfl
  | (k, v) :: r, t => by
    by_cases h : t = k
    · subst h; exact .inr ⟨v, by simp, by simp [slook]⟩
    · rcases slook_or r t with h1 | ⟨u, h1, h2⟩
      · exact .inl (by simp [slook, h, h1])
      · exact .inr ⟨u, by simp [h1], by simp [slook, h, h2]⟩

theorem Sim.forget {ρ : Nat → Value} {a : Act} {w : World} {L : List (Nat × AV)} (hs : Sim n M0 w0 ρ σ a w) (hL : ∀ p ∈ L, σ.t p.1 = p.2) : Sim n M0 w0 ρ ⟨slook L, σ.h⟩ a w :=
  ⟨hs.size, hs.defers, hs.hp, fun t => by
    rcases slook_or L t with h | ⟨v, h1, h2⟩
    · show RepT w _ ρ _ (slook L t) _
      rw [h]; exact RepT.of_rep (.top _)
    · show RepT w _ ρ _ (slook L t) _
      have h3 : σ.t t = v := hL _ h1
      rw [h2, ← h3]
      exact hs.tm t⟩

theorem awp_region {id : Nat} {l : List Oper} (live : List Nat) (hΘ : ∀ t, ShOK P t (Θ t)) (hΓ : ∀ f, SpecOK P f (Γ f)) (hd : dstsOk n l = true)
    (h : arun Θ Γ l.toArray l σ fun σ' => N ⟨slook (pickT live σ'.t), σ'.h⟩) : AWP P n M0 w0 (.region id l.toArray false) N X R σ := fun ρ a w hs =>
  wp_mono (wp_region_lit (arun_sound (X := X) (R := R) hΘ hΓ l σ ρ a w hd hs h)) fun e a w q => by
    cases e with
    | normal =>
      obtain ⟨ρ, σ, h1, h2⟩ := q
      exact ⟨ρ, _, h1.forget (fun p hp => by
        obtain ⟨s, _, rfl⟩ := List.mem_map.1 hp
        rfl), h2⟩
    | _ => exact q

end
end Go.Abs
