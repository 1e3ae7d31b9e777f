/- What follows from what a walk shows. -/
import Derived.Test.YtjnejhlnhapogaaAbs19
namespace Go.Abs
open Go Go.RowKit Go.NatMath
set_option linter.unusedVariables false
set_option linter.unusedSimpArgs false
section
variable {P : Program} {n : Nat} {M0 : Nat → Prop} {w0 : Bs} {N N' : St → Prop} {X X' : Nat → St → Prop} {R R' : St → Prop} {σ : St}
theorem awp_mono {c : Code} (h : AWP P n M0 w0 c N X R σ) (hN : ∀ σ, N σ → N' σ) (hX : ∀ i σ, X i σ → X' i σ) (hR : ∀ σ, R σ → R' σ) : AWP P n M0 w0 c N' X' R' σ := fun ρ a w hs => by
  refine wp_mono (h ρ a w hs) fun e a w q => ?_
  cases e with
  | normal => obtain ⟨ρ, σ, h1, h2⟩ := q; exact ⟨ρ, σ, h1, hN _ h2⟩
  | ret => obtain ⟨ρ, σ, h1, h2⟩ := q; exact ⟨ρ, σ, h1, hR _ h2⟩
  | exit i => obtain ⟨ρ, σ, h1, h2⟩ := q; exact ⟨ρ, σ, h1, hX _ _ h2⟩
  | goto l => exact q.elim
  | panic c => exact q.elim
  | outgrown => exact q.elim
/-- One walk, both ways to use it: the row that is handed over, and what it reads as. -/
theorem pure_of_owned_walk {f : FuncId} {fn : Func} {c : Code} {e : TypeId} {k : IntKind} {sp : List AV → Option (List Int)} (r : Nat) (hf : P.funcs[f]? = some fn) (hb : fn.body = some c) (hn : fn.ntmps = n) (hres : fn.results = ([r].map ResultVar.tmp).toArray)
    (h : ∀ (M0 : Nat → Prop) (w0 : Bs) (args : List AV) (L : List Int), sp args = some L → args.length ≤ n ∧
      AWP P n M0 w0 c (fun σ => ∃ id, σ.t r = .own id ∧ σ.h id = some ⟨e, 1, ints k L, none⟩) (fun _ _ => False) (fun σ => ∃ id, σ.t r = .own id ∧ σ.h id = some ⟨e, 1, ints k L, none⟩) (st (args0 args 0) [])) :
    PureOK P f (fun args => (sp args).map fun L => .lst (ints k L)) := by
  refine pure_of_awp [r] hf hb hn hres ?_
  intro M0 w0 args x hx
  obtain ⟨L, hL, rfl⟩ := Option.map_eq_some_iff.1 hx
  obtain ⟨h1, h2⟩ := h M0 w0 args L hL
  refine ⟨h1, awp_mono h2 ?_ (fun _ _ h => h) ?_⟩ <;>
  · rintro σ ⟨id, g1, g2⟩
    simp only [Res, g1, frz, g2]
theorem pure_congr {f : FuncId} {sp sp' : List AV → Option AV} (h : PureOK P f sp) (he : ∀ args r, sp' args = some r → sp args = some r) : PureOK P f sp' := fun M args vs w r hM hR hr => h M args vs w r hM hR (he _ _ hr)
end
end Go.Abs
