/- Rows of whole numbers. -/
import Derived.Test.YtjnejhlnhapogaaAbs13
import Derived.Test.YtjnejhlnhapogaaNatMath
namespace Go.Abs
open Go Go.RowKit Go.NatMath
set_option linter.unusedVariables false
set_option linter.unusedSimpArgs false

theorem wrap_i64_in {x : Int} (h1 : -9223372036854775808 ≤ x) (h2 : x ≤ 9223372036854775807) : IntKind.i64.wrap x = x := by rw [IntKind.wrap_i64]; omega
theorem wrap_u64_in {x : Int} (h1 : 0 ≤ x) (h2 : x < 18446744073709551616) : IntKind.u64.wrap x = x := by
  simp only [IntKind.wrap, IntKind.bits, IntKind.signed, Bool.false_and, if_false, Bool.false_eq_true]
  exact Int.emod_eq_of_lt h1 (by simpa using h2)
theorem wrap_u32 (x : Int) : IntKind.u32.wrap x = x % 4294967296 := by
  simp [IntKind.wrap, IntKind.bits, IntKind.signed]
theorem wrap_u8 (x : Int) : IntKind.u8.wrap x = x % 256 := by
  simp [IntKind.wrap, IntKind.bits, IntKind.signed]
theorem wrap_u64 (x : Int) : IntKind.u64.wrap x = x % 18446744073709551616 := by
  simp [IntKind.wrap, IntKind.bits, IntKind.signed]

theorem cells_ints (k : IntKind) (L : List Int) (i : Nat) : (cellsOf ((ints k L).getD i .top)).length = 1 := by
  rcases Nat.lt_or_ge i L.length with h | h
  · rw [ints_getD k L i h]; rfl
  · simp [ints, List.getD_eq_getElem?_getD, List.getElem?_eq_none h, cellsOf]
theorem notAgg_ints (k : IntKind) (L : List Int) (i : Nat) : notAgg ((ints k L).getD i .top) = true := by
  rcases Nat.lt_or_ge i L.length with h | h
  · rw [ints_getD k L i h]; rfl
  · simp [ints, List.getD_eq_getElem?_getD, List.getElem?_eq_none h, notAgg]
theorem ints_set (k : IntKind) (L : List Int) (i : Nat) (v : Int) : (ints k L).set i (.val (.int k v)) = ints k (L.set i v) := by
  simp [ints, List.map_set, vInt]
theorem ints_append (k : IntKind) (L M : List Int) : ints k L ++ ints k M = ints k (L ++ M) := by simp [ints]
theorem ints_take (k : IntKind) (L : List Int) (n : Nat) : (ints k L).take n = ints k (L.take n) := by simp [ints]
theorem ints_drop (k : IntKind) (L : List Int) (n : Nat) : (ints k L).drop n = ints k (L.drop n) := by simp [ints]
theorem ints_replicate (k : IntKind) (n : Nat) (v : Int) : List.replicate n (.val (.int k v)) = ints k (List.replicate n v) := by simp [ints, vInt]
theorem ints_one (k : IntKind) (v : Int) : [AV.val (.int k v)] = ints k [v] := rfl
theorem lst_one (k : IntKind) (v : Int) : AV.lst [.val (.int k v)] = .lst (ints k [v]) := rfl
theorem ints_nil (k : IntKind) : ([] : List AV) = ints k [] := rfl
theorem elemOk_int (k : IntKind) (v : Int) : elemOk 1 (.val (.int k v)) = true := rfl
theorem elemOk_ints (k : IntKind) (L : List Int) : (ints k L).all (elemOk 1) = true := by
  rw [List.all_eq_true]
  intro x hx
  obtain ⟨n, _, rfl⟩ := List.mem_map.1 hx
  rfl
theorem ints_isEmpty (k : IntKind) (L : List Int) : (ints k L).isEmpty = L.isEmpty := by cases L <;> rfl
theorem uniB_ints (k : IntKind) (L : List Int) : uniB 1 (ints k L) = true := by
  rw [uniB, List.all_eq_true]
  intro x hx
  obtain ⟨n, _, rfl⟩ := List.mem_map.1 hx
  rfl

theorem aIndex_ints (k : IntKind) (h : Hp) (L : List Int) (i : Int) : aIndex 1 h (.lst (ints k L)) i = if 0 ≤ i ∧ i < L.length then some (.pe (.val (.int k (L.getD i.toNat 0)))) else none := by
  simp only [aIndex, ints_length, cells_ints, and_true]
  split
  · rename_i hc
    rw [ints_getD k L _ (by omega)]; rfl
  · rfl
theorem aIndex_own (sz : Nat) (h : Hp) (id : Nat) (i : Int) : aIndex sz h (.own id) i = (h id).bind fun b => if 0 ≤ i ∧ i < b.xs.length ∧ b.sz = sz then some (.po id i.toNat 0) else none := by
  cases hq : h id <;> simp [aIndex, hq]
theorem aIndex_ref (sz : Nat) (h : Hp) (id off len : Nat) (i : Int) : aIndex sz h (.ref id off len) i = (h id).bind fun b => if 0 ≤ i ∧ i < len ∧ b.sz = sz then some (.po id (off + i.toNat) 0) else none := by
  cases hq : h id <;> simp [aIndex, hq]
theorem aLoad_pe (sh : Sh) (h : Hp) (x : AV) : aLoad sh h (.pe x) = takeVar sh (cellsOf x) := rfl
theorem aLoad_po (sh : Sh) (h : Hp) (id i off : Nat) : aLoad sh h (.po id i off) = (h id).bind fun b => takeVar sh ((cellsOf (b.xs.getD i .top)).drop off) := by
  cases hq : h id <;> simp [aLoad, hq]
theorem aStore_int (k : IntKind) (h : Hp) (id i off : Nat) (v : AV) : aStore (.int k) h (.po id i off) v =
    (h id).bind fun b => if b.sz = 1 ∧ off = 0 ∧ notAgg v = true ∧ cellAV v = true ∧ i < b.xs.length ∧ notAgg (b.xs.getD i .top) = true then some (upd h id (some { b with xs := b.xs.set i v })) else none := by
  cases hq : h id <;> simp [aStore, hq]
theorem cellsOf_int (k : IntKind) (v : Int) : cellsOf (.val (.int k v)) = [.val (.int k v)] := rfl
theorem cellAV_int (k : IntKind) (v : Int) : cellAV (.val (.int k v)) = true := rfl
theorem notAgg_int (k : IntKind) (v : Int) : notAgg (.val (.int k v)) = true := rfl
theorem fnOf_func (f : FuncId) : fnOf (.val (.func (.func f) #[] #[])) = some f := rfl
theorem lenAV_own (h : Hp) (id : Nat) : lenAV h (.own id) = (h id).map fun b => (b.xs.length : Int) := rfl
theorem lenAV_lst (h : Hp) (xs : List AV) : lenAV h (.lst xs) = some (xs.length : Int) := rfl
theorem lenAV_ref (h : Hp) (id off len : Nat) : lenAV h (.ref id off len) = some (len : Int) := rfl
theorem lenAV_str (h : Hp) (s : ByteArray) : lenAV h (.val (.string s)) = some (s.size : Int) := rfl
theorem lenAV_nil (h : Hp) : lenAV h (.val (.slice none 0 0)) = some 0 := rfl
theorem killAll_nil (x : AV) : killAll [] x = x := by unfold killAll; split <;> simp
theorem eraseAll_nil (h : Hp) : eraseAll [] h = h := by funext i; simp [eraseAll]

/-! ### Numbers -/
def MAXL : Nat := 35184372088831
def U (n : Nat) : AV := .lst (ints .u32 (limbs n))
def okLb (L : List Int) : Bool := L.all fun x => decide (0 ≤ x) && decide (x < 4294967296)
theorem okLb_iff (L : List Int) : okLb L = true ↔ okL L := by simp [okLb, okL, List.all_eq_true]
def dec : AV → Option (List Int)
  | .lst xs => match asInts .u32 xs with
    | some L => if okLb L = true ∧ L.length ≤ MAXL then some L else none
    | none => none
  | _ => none
theorem dec_some {x : AV} {L : List Int} (h : dec x = some L) : x = .lst (ints .u32 L) ∧ okL L ∧ L.length ≤ MAXL := by
  unfold dec at h
  split at h
  · split at h
    · rename_i L' hL
      split at h
      · rename_i hc
        cases h
        exact ⟨by rw [asInts_some hL], (okLb_iff L).1 hc.1, hc.2⟩
      · cases h
    · cases h
  · cases h
theorem dec_ints {L : List Int} (h : okL L) (hl : L.length ≤ MAXL) : dec (.lst (ints .u32 L)) = some L := by
  simp only [dec, asInts_ints]
  rw [if_pos ⟨(okLb_iff L).2 h, hl⟩]
theorem dec_U {n : Nat} (hl : (limbs n).length ≤ MAXL) : dec (U n) = some (limbs n) := dec_ints (okL_limbs n) hl
theorem MAXL_val : MAXL = 35184372088831 := rfl


attribute [go_sem] ints_isEmpty List.isEmpty_cons st astep ev St.set upd_app slook_cons slook_nil hlook_cons hlook_nil lenAV_own lenAV_lst lenAV_ref lenAV_str lenAV_nil Option.map_some Option.bind_some vInt vBool vStr aBin iBin aUn aConv sBin map_ite_some intOf? aIndex_ints aIndex_own aIndex_ref aLoad_pe aLoad_po aStore_int takeVar ints_length ints_getD ints_set ints_take ints_drop ints_replicate lst_one ints_append bound? maxOk aSlice uniB_ints cellsOf_int cellAV_int notAgg_int notAgg_ints fnOf_func List.head?_cons List.drop_zero List.map_cons List.map_nil wrap_i64_in wrap_u64_in wrap_u32 wrap_u8 upd_hlook updL eq_self and_true true_and true_or or_true Int.toNat_natCast Int.toNat_zero frz scalarAV refId List.filterMap_cons List.filterMap_nil killAll_nil eraseAll_nil elems elemOk_ints Option.isNone_none List.getElem?_cons_zero List.getElem?_cons_succ Nat.add_zero Nat.zero_add args0 pickT

end Go.Abs
