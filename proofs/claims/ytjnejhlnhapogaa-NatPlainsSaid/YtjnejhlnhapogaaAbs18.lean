/- Calls, as equations for the simplifier; numbers' arithmetic. -/
import Derived.Test.YtjnejhlnhapogaaAbs17
namespace Go.Abs
open Go Go.RowKit Go.NatMath
set_option linter.unusedVariables false
set_option linter.unusedSimpArgs false

def killF (id : Nat) (t : Nat → AV) : Nat → AV := fun j => kill id (t j)
def killAllF (ids : List Nat) (t : Nat → AV) : Nat → AV := fun j => killAll ids (t j)
theorem killF_app (id : Nat) (t : Nat → AV) (j : Nat) : killF id t j = kill id (t j) := rfl
theorem killAllF_app (ids : List Nat) (t : Nat → AV) (j : Nat) : killAllF ids t j = killAll ids (t j) := rfl
theorem killAllF_nil (t : Nat → AV) : killAllF [] t = t := by funext j; exact killAll_nil _
theorem aAppend_own (e : TypeId) (sz bytes : Nat) (z : AV) (ek : Option IntKind) (σ : St) (d id : Nat) (x : AV) : aAppend (.slice e sz bytes z ek) σ d (.own id) x = (elems σ.h x).bind fun ys => (σ.h id).bind fun b =>
    if b.e = e ∧ b.sz = sz ∧ ys.all (elemOk sz) = true ∧ (b.xs.length + ys.length) * bytes ≤ 140737488355328 ∧ b.xs.length + ys.length ≤ 9223372036854775807 ∧ refId x ≠ some id then
          some ⟨upd (killF id σ.t) d (.own id), upd σ.h id (some ⟨e, sz, b.xs ++ ys, none⟩)⟩ else none := by
  unfold aAppend
  cases elems σ.h x with
  | none => rfl
  | some ys => simp only [Option.bind_some]; cases σ.h id <;> rfl
theorem aAppend_nil (e : TypeId) (sz bytes : Nat) (z : AV) (ek : Option IntKind) (σ : St) (d : Nat) (x : AV) : aAppend (.slice e sz bytes z ek) σ d (.val (.slice none 0 0)) x = (elems σ.h x).bind fun ys =>
    if ys.all (elemOk sz) = true ∧ ys.length * bytes ≤ 140737488355328 ∧ ys.length ≤ 9223372036854775807 ∧ (σ.h d).isNone = true then
        some ⟨upd σ.t d (.own d), upd σ.h d (some ⟨e, sz, ys, none⟩)⟩ else none := by
  unfold aAppend
  cases elems σ.h x <;> rfl
def aCallS (s : Spec) (σ : St) (d : Option Nat) (args : List AV) : Option St :=
  match s with
  | .none => none
  | .pure sp => (sp (args.map (frz σ.h))).bind fun r => if scalarAV r = true then some (σ.set d r)
      else some ⟨(St.set ⟨killAllF (args.filterMap refId) σ.t, σ.h⟩ d r).t, eraseAll (args.filterMap refId) σ.h⟩
  | .owned sp => match d with
    | some d => (sp (args.map (frz σ.h))).bind fun b => if (σ.h d).isNone = true ∧ (args.filterMap refId).isEmpty = true then some ⟨upd σ.t d (.own d), upd σ.h d (some ⟨b.e, b.sz, b.xs, none⟩)⟩ else none
    | none => none
  | .inpl sp => (sp args σ.h).bind fun p => if refId p.1 = none then some ⟨(σ.set d p.1).t, p.2⟩ else none

theorem aCall_eq (Γ : FuncId → Spec) (σ : St) (d : Option Nat) (f : FuncId) (args : List AV) : aCall Γ σ d f args = aCallS (Γ f) σ d args := by
  unfold aCall aCallS
  cases Γ f with
  | none => rfl
  | pure sp => simp only; cases sp (args.map (frz σ.h)) <;> rfl
  | owned sp => cases d <;> simp only <;> cases sp (args.map (frz σ.h)) <;> rfl
  | inpl sp => simp only; cases sp args σ.h <;> rfl
theorem aCallS_pure (sp : List AV → Option AV) (σ : St) (d : Option Nat) (args : List AV) : aCallS (.pure sp) σ d args = (sp (args.map (frz σ.h))).bind fun r => if scalarAV r = true then some (σ.set d r)
      else some ⟨(St.set ⟨killAllF (args.filterMap refId) σ.t, σ.h⟩ d r).t, eraseAll (args.filterMap refId) σ.h⟩ := rfl
theorem aCallS_owned (sp : List AV → Option Buf) (σ : St) (d : Nat) (args : List AV) : aCallS (.owned sp) σ (some d) args = (sp (args.map (frz σ.h))).bind fun b => if (σ.h d).isNone = true ∧ (args.filterMap refId).isEmpty = true then some ⟨upd σ.t d (.own d), upd σ.h d (some ⟨b.e, b.sz, b.xs, none⟩)⟩ else none := rfl
theorem aCallS_inpl (sp : List AV → Hp → Option (AV × Hp)) (σ : St) (d : Option Nat) (args : List AV) : aCallS (.inpl sp) σ d args = (sp args σ.h).bind fun p => if refId p.1 = none then some ⟨(σ.set d p.1).t, p.2⟩ else none := rfl
theorem bind_ite_some {α β : Type} {c : Prop} [Decidable c] {x : α} {f : α → Option β} : (if c then some x else none).bind f = if c then f x else none := by split <;> rfl
theorem map_ite_none {α β : Type} {c : Prop} [Decidable c] {x : α} {f : α → β} : (if c then none else some x).map f = if c then none else some (f x) := by split <;> rfl
theorem ite_ite_none {α : Type} {c d : Prop} [Decidable c] [Decidable d] {x : α} : (if c then (if d then some x else none) else none) = if c ∧ d then some x else none := by
  by_cases hc : c <;> by_cases hd : d <;> simp [hc, hd]
theorem dec_ints' {L : List Int} (h : okL L) (hl : L.length ≤ 35184372088831) : dec (.lst (ints .u32 L)) = some L := dec_ints h hl
theorem dec_nil : dec (.lst []) = some [] := rfl
theorem lst_nil : AV.lst [] = .lst (ints .u32 []) := rfl

/-- Two, or three, numbers of at most so many limbs less than could be. -/
def decK (k : Nat) (x : AV) : Option (List Int) := (dec x).bind fun L => if L.length + k ≤ MAXL then some L else none
theorem decK_some {k : Nat} {x : AV} {L : List Int} (h : decK k x = some L) : x = .lst (ints .u32 L) ∧ okL L ∧ L.length + k ≤ 35184372088831 := by
  unfold decK at h
  obtain ⟨M, h1, h2⟩ := Option.bind_eq_some_iff.1 h
  split at h2
  · cases h2
    obtain ⟨g1, g2, g3⟩ := dec_some h1
    exact ⟨g1, g2, by rw [MAXL_val] at *; assumption⟩
  · cases h2
theorem decK_ints {k : Nat} {L : List Int} (h : okL L) (hl : L.length + k ≤ 35184372088831) : decK k (.lst (ints .u32 L)) = some L := by
  unfold decK
  rw [dec_ints h (by rw [MAXL_val]; omega)]
  simp only [Option.bind_some]
  rw [if_pos (by rw [MAXL_val]; exact hl)]
theorem decK_nil {k : Nat} (h : k ≤ 35184372088831) : decK k (.lst []) = some [] := decK_ints (L := []) okL_nil (by simpa using h)

def sp1 (k : Nat) (f : List Int → Option AV) : List AV → Option AV
  | [x] => (decK k x).bind f
  | _ => none
def sp2 (k : Nat) (f : List Int → List Int → Option AV) : List AV → Option AV
  | [x, y] => (decK k x).bind fun L => (decK k y).bind fun M => f L M
  | _ => none
theorem sp1_some {k : Nat} {f : List Int → Option AV} {args : List AV} {r : AV} (h : sp1 k f args = some r) : ∃ L, args = [.lst (ints .u32 L)] ∧ okL L ∧ L.length + k ≤ 35184372088831 ∧ f L = some r := by
  unfold sp1 at h
  split at h
  · obtain ⟨L, h1, h2⟩ := Option.bind_eq_some_iff.1 h
    obtain ⟨rfl, g2, g3⟩ := decK_some h1
    exact ⟨L, rfl, g2, g3, h2⟩
  · cases h
theorem sp2_some {k : Nat} {f : List Int → List Int → Option AV} {args : List AV} {r : AV} (h : sp2 k f args = some r) : ∃ L M, args = [.lst (ints .u32 L), .lst (ints .u32 M)] ∧ okL L ∧ L.length + k ≤ 35184372088831 ∧ okL M ∧ M.length + k ≤ 35184372088831 ∧ f L M = some r := by
  unfold sp2 at h
  split at h
  · obtain ⟨L, h1, h2⟩ := Option.bind_eq_some_iff.1 h
    obtain ⟨M, h3, h4⟩ := Option.bind_eq_some_iff.1 h2
    obtain ⟨rfl, g2, g3⟩ := decK_some h1
    obtain ⟨rfl, g4, g5⟩ := decK_some h3
    exact ⟨L, M, rfl, g2, g3, g4, g5, h4⟩
  · cases h
theorem idxOk_one (x : Operand) : idxOk [(0, x)] 0 = true := rfl
theorem idxOk_two (x y : Operand) : idxOk [(0, x), (1, y)] 0 = true := rfl
theorem idxOk_three (x y z : Operand) : idxOk [(0, x), (1, y), (2, z)] 0 = true := rfl
theorem lst_two (k : IntKind) (v u : Int) : AV.lst [.val (.int k v), .val (.int k u)] = .lst (ints k [v, u]) := rfl
theorem lst_three (k : IntKind) (v u t : Int) : AV.lst [.val (.int k v), .val (.int k u), .val (.int k t)] = .lst (ints k [v, u, t]) := rfl
attribute [go_sem] List.size_toArray elemOk_int idxOk_one idxOk_two idxOk_three lst_two lst_three
def evs (σ : St) : List (Nat × Operand) → List AV
  | [] => []
  | p :: ps => ev σ p.2 :: evs σ ps
theorem map_ev (σ : St) (l : List (Nat × Operand)) : l.map (fun p => ev σ p.2) = evs σ l := by
  induction l with
  | nil => rfl
  | cons p ps ih => simp [evs, ih]
theorem evs_nil (σ : St) : evs σ [] = [] := rfl
theorem evs_cons (σ : St) (i : Nat) (x : Operand) (ps : List (Nat × Operand)) : evs σ ((i, x) :: ps) = ev σ x :: evs σ ps := rfl
theorem killAll_val (ids : List Nat) (v : Value) : killAll ids (.val v) = .val v := rfl
theorem killAll_lst (ids : List Nat) (v : List AV) : killAll ids (.lst v) = .lst v := rfl
theorem killAll_tup (ids : List Nat) (v : List AV) : killAll ids (.tup v) = .tup v := rfl
theorem killAll_top (ids : List Nat) : killAll ids .top = .top := rfl
theorem killAll_own (ids : List Nat) (i : Nat) : killAll ids (.own i) = if i ∈ ids then .top else .own i := rfl
theorem killAll_ref (ids : List Nat) (i o l : Nat) : killAll ids (.ref i o l) = if i ∈ ids then .top else .ref i o l := rfl
theorem eraseAll_app (ids : List Nat) (h : Hp) (i : Nat) : eraseAll ids h i = if i ∈ ids then none else h i := rfl
attribute [go_sem] killAll_val killAll_lst killAll_tup killAll_top killAll_own killAll_ref eraseAll_app List.mem_cons List.not_mem_nil
attribute [go_sem] killF_app killAllF_app killAllF_nil aAppend_own aAppend_nil
attribute [go_sem ↓] map_ev
attribute [go_sem] evs_nil evs_cons Option.isSome_some Option.isSome_none Bool.false_or Bool.true_or Bool.or_true Bool.or_false Bool.not_true Bool.not_false
attribute [go_sem] List.length_reverse List.length_set List.length_append List.length_replicate aCall_eq aCallS_pure aCallS_owned aCallS_inpl bind_ite_some map_ite_none ite_ite_none dec_ints' dec_nil decK_ints decK_nil sp1 sp2

/-! ### Bits -/
theorem shr_u64_32 (a : Int) : a.fdiv (2 ^ min (32 : Int).toNat 64) = a / 4294967296 := by
  rw [show (min (32 : Int).toNat 64) = 32 from rfl]; exact Int.fdiv_eq_ediv_of_nonneg a (by decide)
theorem shl_u64_32 (a : Int) : a * 2 ^ min (32 : Int).toNat 64 = a * 4294967296 := rfl
theorem shr_u32_31 (a : Int) : a.fdiv (2 ^ min (31 : Int).toNat 32) = a / 2147483648 := by
  rw [show (min (31 : Int).toNat 32) = 31 from rfl]; exact Int.fdiv_eq_ediv_of_nonneg a (by decide)
theorem shr_u32_16 (a : Int) : a.fdiv (2 ^ min (16 : Int).toNat 32) = a / 65536 := by
  rw [show (min (16 : Int).toNat 32) = 16 from rfl]; exact Int.fdiv_eq_ediv_of_nonneg a (by decide)
theorem shr_u32_8 (a : Int) : a.fdiv (2 ^ min (8 : Int).toNat 32) = a / 256 := by
  rw [show (min (8 : Int).toNat 32) = 8 from rfl]; exact Int.fdiv_eq_ediv_of_nonneg a (by decide)
theorem tdiv_nn {a : Int} (b : Int) (h : 0 ≤ a) : a.tdiv b = a / b := Int.tdiv_eq_ediv_of_nonneg h
theorem tmod_nn {a : Int} (b : Int) (h : 0 ≤ a) : a.tmod b = a % b := Int.tmod_eq_emod_of_nonneg h
theorem or_hi {a b : Int} (h1 : 0 ≤ a) (h2 : a < 4294967296) (h3 : 0 ≤ b) (h4 : b < 4294967296) : bitsOp .or .u64 (a * 4294967296) b = a * 4294967296 + b := by
  obtain ⟨m, rfl⟩ := Int.eq_ofNat_of_zero_le h1
  obtain ⟨k, rfl⟩ := Int.eq_ofNat_of_zero_le h3
  have e1 : (m : Int) * 4294967296 = ((m * 4294967296 : Nat) : Int) := by omega
  rw [e1]
  show IntKind.u64.wrap ((BitVec.ofInt 64 ((m * 4294967296 : Nat) : Int) ||| BitVec.ofInt 64 (k : Int)).toNat : Int) = _
  rw [BitVec.ofInt_natCast, BitVec.ofInt_natCast, BitVec.toNat_or, BitVec.toNat_ofNat, BitVec.toNat_ofNat]
  have : (m * 4294967296 % 2 ^ 64 ||| k % 2 ^ 64) = m * 4294967296 + k := by
    rw [Nat.mod_eq_of_lt (by omega), Nat.mod_eq_of_lt (by omega), show (4294967296 : Nat) = 2 ^ 32 from rfl, ← Nat.shiftLeft_eq, Nat.shiftLeft_add_eq_or_of_lt (by omega)]
  rw [this, wrap_u64_in (by omega) (by omega)]
  omega
attribute [go_sem] shr_u64_32 shl_u64_32 shr_u32_31 shr_u32_16 shr_u32_8 tdiv_nn tmod_nn or_hi

theorem bitsOp_u32 (op : BinOp) (a b : Int) : bitsOp op .u32 a b = ((match op with | .and => BitVec.ofInt 32 a &&& BitVec.ofInt 32 b | .or => BitVec.ofInt 32 a ||| BitVec.ofInt 32 b | .xor => BitVec.ofInt 32 a ^^^ BitVec.ofInt 32 b | _ => BitVec.ofInt 32 a &&& ~~~BitVec.ofInt 32 b).toNat : Int) := by
  have key : ∀ x : BitVec 32, IntKind.u32.wrap (x.toNat : Int) = (x.toNat : Int) := fun x => by
    rw [wrap_u32]
    have := x.isLt
    omega
  cases op <;> exact key _
theorem ofInt_toNat (x : BitVec 32) : BitVec.ofInt 32 (x.toNat : Int) = x := by simp
theorem msb_ofInt {x : Int} (h1 : 0 ≤ x) (h2 : x < 4294967296) : (BitVec.ofInt 32 x).msb = decide (2147483648 ≤ x) := by
  obtain ⟨m, rfl⟩ := Int.eq_ofNat_of_zero_le h1
  rw [BitVec.msb_eq_decide]
  simp
  omega
theorem shr31 (x : BitVec 32) : (x.toNat : Int) / 2147483648 = if x.msb then 1 else 0 := by
  have := x.isLt
  rw [BitVec.msb_eq_decide]
  split
  · rename_i h; simp at h; omega
  · rename_i h; simp at h; omega
/-- `math/bits.Sub32`'s borrow. -/
theorem sub_borrow {x y b : Int} (hx : 0 ≤ x ∧ x < 4294967296) (hy : 0 ≤ y ∧ y < 4294967296) (hb : 0 ≤ b ∧ b ≤ 1) :
    bitsOp .or .u32 (bitsOp .and .u32 (bitsOp .xor .u32 IntKind.u32.max x) y) (bitsOp .and .u32 (bitsOp .xor .u32 IntKind.u32.max (bitsOp .xor .u32 x y)) ((x - y - b) % 4294967296)) / 2147483648 = if x < y + b then 1 else 0 := by
  have hm : IntKind.u32.max = 4294967295 := by decide
  have hd := Int.emod_nonneg (x - y - b) (show (4294967296 : Int) ≠ 0 by decide)
  have hd2 := Int.emod_lt_of_pos (x - y - b) (show (0 : Int) < 4294967296 by decide)
  simp only [bitsOp_u32, ofInt_toNat, shr31, BitVec.msb_or, BitVec.msb_and, BitVec.msb_xor, hm, msb_ofInt hx.1 hx.2, msb_ofInt hy.1 hy.2, msb_ofInt hd hd2, msb_ofInt (show (0 : Int) ≤ 4294967295 by decide) (by decide)]
  by_cases h1 : 2147483648 ≤ x <;> by_cases h2 : 2147483648 ≤ y <;> by_cases h3 : 2147483648 ≤ (x - y - b) % 4294967296 <;> simp [h1, h2, h3] <;> omega

end Go.Abs
