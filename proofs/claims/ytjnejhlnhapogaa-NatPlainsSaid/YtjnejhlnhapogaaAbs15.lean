/- A region that draws its order. -/
import Derived.Test.YtjnejhlnhapogaaAbs14
namespace Go.Abs
open Go Go.RowKit
set_option linter.unusedVariables false
set_option linter.unusedSimpArgs false

/-- Operations whose result hangs on their operands and on what the own rows hold, and that write their slot alone. -/
def kindA : Op → Bool
  | .move _ | .assign _ | .pick .. | .binOp .. | .unOp .. | .convert .. | .extract .. | .indexAddr .. | .index .. | .load .. | .slice .. => true
  | .call { callee := .builtin .len, .. } | .call { callee := .builtin .max, .. } => true
  | _ => false
/-- .. on their operands alone. -/
def kindF : Op → Bool
  | .move _ | .assign _ | .pick .. | .binOp .. | .unOp .. | .extract .. => true
  | _ => false
def isStore : Op → Bool
  | .store .. => true
  | _ => false

section
variable {P : Program} {Θ : TypeId → Sh} {Γ : FuncId → Spec} {n : Nat} {M0 : Nat → Prop} {w0 : Bs}

def astepD (Θ : TypeId → Sh) (Γ : FuncId → Spec) (o : Oper) (σ : St) : Option St :=
  if kindA o.op = true ∨ (isStore o.op = true ∧ o.dst = none) then astep Θ Γ o σ
  else match o.op with
    | .call c => match c.callee with
      | .value f => match fnOf (ev σ f) with
        | some f => match Γ f with
          | .pure sp => if ((c.args.toList.map (ev σ)).filterMap refId).isEmpty = true then (sp (c.args.toList.map fun x => frz (fun _ => none) (ev σ x))).map (σ.set o.dst) else none
          | _ => none
        | none => none
      | _ => none
    | _ => none

theorem frz_noref {h h' : Hp} {x : AV} (hx : refId x = none) : frz h x = frz h' x := by
  cases x <;> first | rfl | (exfalso; simp [refId] at hx; done) | (unfold frz; split <;> first | rfl | simp_all)

theorem set_killAll (σ : St) (d : Option Nat) (r : AV) : (⟨(St.set ⟨fun t => killAll [] (σ.t t), σ.h⟩ d r).t, eraseAll [] σ.h⟩ : St) = σ.set d r := by
  have e : (fun t => killAll [] (σ.t t)) = σ.t := by funext t; exact killAll_nil _
  rw [e, eraseAll_nil]
  cases d <;> rfl

theorem astepD_step {o : Oper} {σ σ' : St} (h : astepD Θ Γ o σ = some σ') : astep Θ Γ o σ = some σ' := by
  unfold astepD at h
  split at h
  · exact h
  · split at h
    · rename_i c ho
      split at h
      · rename_i f hc
        split at h
        · rename_i f' hf
          split at h
          · rename_i sp hsp
            split at h
            · rename_i hemp
              obtain ⟨r, hr, rfl⟩ := Option.map_eq_some_iff.1 h
              have hnil : (c.args.toList.map (ev σ)).filterMap refId = [] := List.isEmpty_iff.1 hemp
              have hargs : (c.args.toList.map (ev σ)).map (frz σ.h) = c.args.toList.map fun x => frz (fun _ => none) (ev σ x) := by
                rw [List.map_map]
                refine List.map_congr_left fun x hx => ?_
                refine frz_noref ?_
                cases hq : refId (ev σ x) with
                | none => rfl
                | some id =>
                  have : id ∈ (c.args.toList.map (ev σ)).filterMap refId := List.mem_filterMap.2 ⟨ev σ x, List.mem_map.2 ⟨x, hx, rfl⟩, hq⟩
                  rw [hnil] at this
                  cases this
              unfold astep
              rw [ho]
              simp only [hc, hf, aCall, hsp, hargs, hr]
              split
              · rfl
              · rw [hnil, set_killAll]
            · cases h
          · cases h
        · cases h
      · cases h
    · cases h

/-- The effect of such an operation, and on what it hangs. -/
theorem astepD_local {o : Oper} {σ σ' : St} (h : astepD Θ Γ o σ = some σ') :
    (isStore o.op = false ∧ ∃ v, σ' = σ.set o.dst v ∧ ∀ σ2, (∀ x ∈ o.op.operands, ev σ2 x = ev σ x) → (kindF o.op = true ∨ σ2.h = σ.h) → astepD Θ Γ o σ2 = some (σ2.set o.dst v)) ∨
    (isStore o.op = true ∧ o.dst = none ∧ ∃ h', σ' = ⟨σ.t, h'⟩ ∧ ∀ σ2, (∀ x ∈ o.op.operands, ev σ2 x = ev σ x) → σ2.h = σ.h → astepD Θ Γ o σ2 = some ⟨σ2.t, h'⟩) := by
  have h0 := h
  unfold astepD at h
  split at h
  · rename_i hk
    rcases hk with hk | ⟨hst, hdn⟩
    · left
      have key : ∀ (F : (Operand → AV) → Hp → Option AV), (∀ σ, astep Θ Γ o σ = (F (ev σ) σ.h).map (σ.set o.dst)) → (∀ e e' : Operand → AV, ∀ hh : Hp, (∀ x ∈ o.op.operands, e' x = e x) → F e' hh = F e hh) →
          (kindF o.op = true → ∀ e h1 h2, F e h1 = F e h2) →
          ∃ v, σ' = σ.set o.dst v ∧ ∀ σ2, (∀ x ∈ o.op.operands, ev σ2 x = ev σ x) → (kindF o.op = true ∨ σ2.h = σ.h) → astepD Θ Γ o σ2 = some (σ2.set o.dst v) := by
        intro F h1 h2 h3
        rw [h1] at h
        obtain ⟨v, hv, rfl⟩ := Option.map_eq_some_iff.1 h
        refine ⟨v, rfl, fun σ2 he hh => ?_⟩
        unfold astepD
        rw [if_pos (.inl hk), h1, h2 _ _ _ he]
        rcases hh with hh | hh
        · rw [h3 hh _ _ σ.h, hv]; rfl
        · rw [hh, hv]; rfl
      obtain ⟨dst, op, ty, pos, af, gd⟩ := o
      cases op <;> simp only [kindA, Bool.false_eq_true] at hk
      case move x => exact ⟨rfl, key (fun e _ => some (e x)) (fun σ => rfl) (fun e e' hh he => by simp [he x (by simp [Op.operands])]) (fun _ _ _ _ => rfl)⟩
      case assign x => exact ⟨rfl, key (fun e _ => some (e x)) (fun σ => rfl) (fun e e' hh he => by simp [he x (by simp [Op.operands])]) (fun _ _ _ _ => rfl)⟩
      case pick c x y => exact ⟨rfl, key (fun e _ => match e c with | .val (.bool b) => some (if b then e x else e y) | _ => none) (fun σ => by
          simp only [astep]; split <;> simp_all) (fun e e' hh he => by rw [he c (by simp [Op.operands]), he x (by simp [Op.operands]), he y (by simp [Op.operands])]) (fun _ _ _ _ => rfl)⟩
      case binOp op t x y yt => exact ⟨rfl, key (fun e _ => aBin op (Θ t) (e x) (e y)) (fun σ => rfl) (fun e e' hh he => by rw [he x (by simp [Op.operands]), he y (by simp [Op.operands])]) (fun _ _ _ _ => rfl)⟩
      case unOp op t x => exact ⟨rfl, key (fun e _ => aUn op (e x)) (fun σ => rfl) (fun e e' hh he => by rw [he x (by simp [Op.operands])]) (fun _ _ _ _ => rfl)⟩
      case convert s t x => exact ⟨rfl, key (fun e h => aConv (Θ s) (Θ t) (e x) h) (fun σ => rfl) (fun e e' hh he => by rw [he x (by simp [Op.operands])]) (fun hF => by simp [kindF] at hF)⟩
      case extract x i => exact ⟨rfl, key (fun e _ => match e x with | .tup xs => xs[i]? | _ => none) (fun σ => by simp only [astep]; split <;> simp_all) (fun e e' hh he => by rw [he x (by simp [Op.operands])]) (fun _ _ _ _ => rfl)⟩
      case indexAddr t x i => exact ⟨rfl, key (fun e h => match Θ t, intOf? (e i) with | .slice _ sz _ _ _, some i => aIndex sz h (e x) i | _, _ => none) (fun σ => by simp only [astep]; split <;> simp_all) (fun e e' hh he => by rw [he x (by simp [Op.operands]), he i (by simp [Op.operands])]) (fun hF => by simp [kindF] at hF)⟩
      case index t x i => exact ⟨rfl, key (fun e h => match Θ t, e x, intOf? (e i) with | .str, .val (.string s), some i => if h : 0 ≤ i ∧ i.toNat < s.size then some (vInt .u8 (s[i.toNat]'h.2).toNat) else none | _, _, _ => none) (fun σ => by
          simp only [astep]; split
          · split <;> simp_all
          · simp_all) (fun e e' hh he => by rw [he x (by simp [Op.operands]), he i (by simp [Op.operands])]) (fun hF => by simp [kindF] at hF)⟩
      case load t p => exact ⟨rfl, key (fun e h => aLoad (Θ t) h (e p)) (fun σ => rfl) (fun e e' hh he => by rw [he p (by simp [Op.operands])]) (fun hF => by simp [kindF] at hF)⟩
      case slice t x lo hi mx => exact ⟨rfl, key (fun e h => match lenAV h (e x) with
          | some n => match bound? e 0 lo, bound? e n hi with
            | some l, some m => if bound? e m mx = some m ∧ maxOk (Θ t) hi mx = true then aSlice (Θ t) h (e x) (some l) (some m) (some m) else none
            | _, _ => none
          | none => none) (fun σ => by
            simp only [astep]
            split
            · rename_i n hn
              split
              · rename_i l m hl hm
                simp only [hn, hl, hm]
                split <;> rfl
              · rename_i hno
                simp only [hn]
                first | rfl | (split <;> simp_all)
            · rename_i hn
              simp only [hn]
              rfl) (fun e e' hh he => by
            have hx := he x (by simp [Op.operands])
            have hlo : ∀ d, bound? e' d lo = bound? e d lo := fun d => by cases lo with
              | none => rfl
              | some y => simp only [bound?]; rw [he y (by simp [Op.operands])]
            have hhi : ∀ d, bound? e' d hi = bound? e d hi := fun d => by cases hi with
              | none => rfl
              | some y => simp only [bound?]; rw [he y (by simp [Op.operands])]
            have hmx : ∀ d, bound? e' d mx = bound? e d mx := fun d => by cases mx with
              | none => rfl
              | some y => simp only [bound?]; rw [he y (by simp [Op.operands])]
            rw [hx]
            simp only [hlo, hhi, hmx]) (fun hF => by simp [kindF] at hF)⟩
      case call c =>
        obtain ⟨cal, args, ats⟩ := c
        cases cal with
        | value f => simp at hk
        | invoke r m => simp at hk
        | builtin b =>
          cases b <;> simp at hk
          case len => exact ⟨rfl, key (fun e h => match ats.toList, args.toList with
              | [t], [x] => match Θ t with
                | .slice .. => match e x with
                  | .val (.string _) => none
                  | x => (lenAV h x).map fun n => vInt .i64 n
                | .str => match e x with
                  | .val (.string s) => some (vInt .i64 s.size)
                  | _ => none
                | _ => none
              | _, _ => none) (fun σ => by
                simp only [astep]
                split
                · split
                  · split
                    · simp_all
                    · simp_all [Option.map_map, Function.comp_def]
                  · split <;> simp_all
                  · simp_all
                · simp_all) (fun e e' hh he => by
                split
                · rename_i t x h1 h2
                  rw [he x (by
                    have : x ∈ args.toList := by rw [h2]; simp
                    simp [Op.operands, Call.operands]; simpa using this)]
                · rfl) (fun hF => by simp [kindF] at hF)⟩
          case max => exact ⟨rfl, key (fun e h => match args.toList with
              | [x, y] => match e x, e y with
                | .val (.int k a), .val (.int _ b) => some (vInt k (if b > a then b else a))
                | _, _ => none
              | _ => none) (fun σ => by
                simp only [astep]
                split
                · split <;> simp_all
                · simp_all) (fun e e' hh he => by
                split
                · rename_i x y h2
                  have hx : x ∈ args.toList := by rw [h2]; simp
                  have hy : y ∈ args.toList := by rw [h2]; simp
                  rw [he x (by simp [Op.operands, Call.operands]; simpa using hx), he y (by simp [Op.operands, Call.operands]; simpa using hy)]
                · rfl) (fun hF => by simp [kindF] at hF)⟩
    · right
      obtain ⟨dst, op, ty, pos, af, gd⟩ := o
      cases op <;> simp [isStore] at hst
      case store t p x =>
        simp only at hdn
        subst hdn
        simp only [astep] at h
        obtain ⟨h', hh', rfl⟩ := Option.map_eq_some_iff.1 h
        refine ⟨rfl, rfl, h', rfl, fun σ2 he hh => ?_⟩
        unfold astepD
        rw [if_pos (.inr ⟨rfl, rfl⟩)]
        simp only [astep, he p (by simp [Op.operands]), he x (by simp [Op.operands]), hh, hh', Option.map_some]
        rfl
  · left
    rename_i hnk
    split at h
    · rename_i c ho
      refine ⟨by rw [ho]; rfl, ?_⟩
      split at h
      · rename_i f hc
        split at h
        · rename_i f' hf
          split at h
          · rename_i sp hsp
            split at h
            · rename_i hemp
              obtain ⟨r, hr, rfl⟩ := Option.map_eq_some_iff.1 h
              refine ⟨r, rfl, fun σ2 he _ => ?_⟩
              have hfe : ev σ2 f = ev σ f := he f (by rw [ho]; simp [Op.operands, Call.operands, hc])
              have hae : ∀ x ∈ c.args.toList, ev σ2 x = ev σ x := fun x hx => he x (by rw [ho]; simp [Op.operands, Call.operands]; right; simpa using hx)
              have e1 : c.args.toList.map (ev σ2) = c.args.toList.map (ev σ) := List.map_congr_left hae
              have e2 : (c.args.toList.map fun x => frz (fun _ => none) (ev σ2 x)) = c.args.toList.map fun x => frz (fun _ => none) (ev σ x) := List.map_congr_left fun x hx => by rw [hae x hx]
              unfold astepD
              rw [if_neg hnk, ho]
              simp only [hc, hfe, hf, hsp, e1, e2, hr, Option.map_some]
              rw [if_pos hemp]
            · cases h
          · cases h
        · cases h
      · cases h
    · cases h

end
end Go.Abs
