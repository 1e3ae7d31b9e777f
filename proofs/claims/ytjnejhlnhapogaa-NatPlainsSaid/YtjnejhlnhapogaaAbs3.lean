/- One operation on the abstract state. -/
import Derived.Test.YtjnejhlnhapogaaAbs2
namespace Go.Abs
open Go Go.RowKit

inductive Sh where
  | int (k : IntKind)
  | bool
  | str
  | slice (e : TypeId) (sz bytes : Nat) (z : AV) (ek : Option IntKind)
  | struct (fs : List (Nat × Nat × Bool)) (sz : Nat) (z : AV)
  | other

def isAggB (P : Program) (t : TypeId) : Bool := match P.underlying t with
  | some (.struct _) | some (.array _ _) => true
  | _ => false

def ShOK (P : Program) (t : TypeId) : Sh → Prop
  | .int k => P.underlying t = some (.int k) ∧ (P.info? t).map (·.size) = some 1
  | .bool => P.underlying t = some .bool ∧ (P.info? t).map (·.size) = some 1
  | .str => P.underlying t = some .string ∧ (P.info? t).map (·.size) = some 1
  | .slice e sz bytes z ek => P.underlying t = some (.slice e) ∧ (P.info? t).map (·.size) = some 1 ∧ 0 < sz ∧ (∀ k, ek = some k → P.underlying e = some (.int k)) ∧ ∃ i zv, P.info? e = some i ∧ i.size = sz ∧ i.bytes = bytes ∧ i.zero = some zv ∧ zv.cells.size = sz ∧ (cellsOf z).length = sz ∧ ∀ w M, RepL w M (cellsOf z) zv.cells.toList
  | .struct fs sz z => ∃ fields i zv, P.underlying t = some (.struct fields) ∧ P.info? t = some i ∧ i.size = sz ∧ i.zero = some zv ∧ zv.cells.size = sz ∧ (cellsOf z).length = sz ∧
      (∀ w M, RepL w M (cellsOf z) zv.cells.toList) ∧ ∀ (j : Nat) f, fs[j]? = some f → ∃ fd fi, fields[j]? = some fd ∧ fd.offset = f.1 ∧ P.info? fd.type = some fi ∧ fi.size = f.2.1 ∧ 0 < f.2.1 ∧ isAggB P fd.type = f.2.2 ∧ f.1 + f.2.1 ≤ sz ∧ (P.underlying fd.type).isSome = true
  | .other => True

inductive Spec where
  | none
  | pure (f : List AV → Option AV)
  | owned (f : List AV → Option Buf)
  | inpl (f : List AV → Hp → Option (AV × Hp))

def vInt (k : IntKind) (n : Int) : AV := .val (.int k n)
def vBool (b : Bool) : AV := .val (.bool b)
def vStr (s : ByteArray) : AV := .val (.string s)

/-- `&`, `|`, `^`, `&^` of an integer kind. -/
def bitsOp (op : BinOp) (k : IntKind) (a b : Int) : Int :=
  let x := BitVec.ofInt k.bits a
  let y := BitVec.ofInt k.bits b
  match op with
  | .and => k.wrap (x &&& y).toNat
  | .or => k.wrap (x ||| y).toNat
  | .xor => k.wrap (x ^^^ y).toNat
  | _ => k.wrap (x &&& ~~~y).toNat

def iBin (op : BinOp) (k k' : IntKind) (a b : Int) : Option AV :=
  match op with
  | .shl => if 0 ≤ b then some (vInt k (k.wrap (a * 2 ^ min b.toNat k.bits))) else none
  | .shr => if 0 ≤ b then some (vInt k (a.fdiv (2 ^ min b.toNat k.bits))) else none
  | .add => if k = k' then some (vInt k (k.wrap (a + b))) else none
  | .sub => if k = k' then some (vInt k (k.wrap (a - b))) else none
  | .mul => if k = k' then some (vInt k (k.wrap (a * b))) else none
  | .quo => if k = k' then (if b = 0 then none else some (vInt k (k.wrap (a.tdiv b)))) else none
  | .rem => if k = k' then (if b = 0 then none else some (vInt k (a.tmod b))) else none
  | .and => if k = k' then some (vInt k (bitsOp .and k a b)) else none
  | .or => if k = k' then some (vInt k (bitsOp .or k a b)) else none
  | .xor => if k = k' then some (vInt k (bitsOp .xor k a b)) else none
  | .andNot => if k = k' then some (vInt k (bitsOp .andNot k a b)) else none
  | .eql => if k = k' then some (vBool (a == b)) else none
  | .neq => if k = k' then some (vBool (a != b)) else none
  | .lss => if k = k' then some (vBool (decide (a < b))) else none
  | .leq => if k = k' then some (vBool (decide (a ≤ b))) else none
  | .gtr => if k = k' then some (vBool (decide (a > b))) else none
  | .geq => if k = k' then some (vBool (decide (a ≥ b))) else none

def sBin (op : BinOp) (a b : ByteArray) : Option AV :=
  match op with
  | .add => if a.size + b.size ≤ 9223372036854775807 then some (vStr (a ++ b)) else none
  | .eql => some (vBool (a.toList == b.toList))
  | .neq => some (vBool (!(a.toList == b.toList)))
  | _ => none

def aBin (op : BinOp) (sh : Sh) (x y : AV) : Option AV :=
  match x, y with
  | .val (.int k a), .val (.int k' b) => iBin op k k' a b
  | .val (.string a), .val (.string b) => sBin op a b
  | .val (.bool a), .val (.bool b) => match sh, op with
    | .bool, .eql => some (vBool (a == b))
    | .bool, .neq => some (vBool (!(a == b)))
    | _, _ => none
  | .lst xs, .val (.slice none 0 0) => match sh, op with
    | .slice .., .eql => if xs.isEmpty then some .anyb else some (vBool false)
    | .slice .., .neq => if xs.isEmpty then some .anyb else some (vBool true)
    | _, _ => none
  | _, _ => none

def aUn (op : UnOp) (x : AV) : Option AV :=
  match op, x with
  | .not, .val (.bool b) => some (vBool (!b))
  | .neg, .val (.int k n) => some (vInt k (k.wrap (0 - n)))
  | .xor, .val (.int k n) => some (vInt k (bitsOp .xor k (if k.signed then -1 else k.max) n))
  | _, _ => none

def asInts (k : IntKind) : List AV → Option (List Int)
  | [] => some []
  | .val (.int k' n) :: xs => if k' = k then (asInts k xs).map (n :: ·) else none
  | _ :: _ => none
def ints (k : IntKind) (L : List Int) : List AV := L.map (vInt k)
theorem asInts_ints (k : IntKind) : ∀ L, asInts k (ints k L) = some L
  | [] => rfl
  | n :: L => by
    have := asInts_ints k L
    simp only [ints] at this
    simp [ints, asInts, vInt, this]
theorem asInts_some {k : IntKind} : ∀ {xs : List AV} {L : List Int}, asInts k xs = some L → xs = ints k L
  | [], L, h => by simp [asInts] at h; subst h; rfl
  | x :: xs, L, h => by
    unfold asInts at h
    split at h
    · cases h; rename_i e; cases e
    · rename_i k' n ys e
      cases e
      split at h
      · rename_i hk
        subst hk
        cases hq : asInts k' xs with
        | none => simp [hq] at h
        | some M =>
          simp [hq] at h
          subst h
          simp [ints, vInt, asInts_some hq]
      · simp at h
    · simp at h

/-- The elements that a slice's value reads as. -/
def elems (h : Hp) : AV → Option (List AV)
  | .lst xs => some xs
  | .val (.slice none 0 0) => some []
  | .own id => (h id).map (·.xs)
  | .ref id off len => (h id).map fun b => (b.xs.drop off).take len
  | _ => none

def aConv (sh1 sh2 : Sh) (x : AV) (h : Hp) : Option AV :=
  match sh2, x with
  | .int k, .val (.int _ n) => match sh1 with
    | .other => none
    | _ => some (vInt k (k.wrap n))
  | .str, .val (.string s) => match sh1 with
    | .str => some (vStr s)
    | _ => none
  | .str, x => match sh1, elems h x with
    | .slice _ 1 _ _ (some .u8), some xs => (asInts .u8 xs).map fun L => vStr (strOfNums L)
    | _, _ => none
  | _, _ => none

def lenAV (h : Hp) : AV → Option Int
  | .lst xs => some xs.length
  | .val (.slice none 0 0) => some 0
  | .val (.string s) => some s.size
  | .own id => (h id).map fun b => (b.xs.length : Int)
  | .ref _ _ len => some len
  | _ => none

/-- What is handed on as a value that is only read. -/
def frz (h : Hp) : AV → AV
  | .val (.slice none 0 0) => .lst []
  | .own id => match h id with | some b => .lst b.xs | none => .top
  | .ref id off len => match h id with | some b => .lst ((b.xs.drop off).take len) | none => .top
  | .po _ _ _ => .top
  | x => x

def notAgg : AV → Bool
  | .agg _ => false
  | _ => true

/-- A value, of whatever memory it is told: without rows. -/
def scalarAV : AV → Bool
  | .val _ | .anyb => true
  | .tup xs => xs.all fun | .val _ | .anyb => true | _ => false
  | .agg xs => xs.all fun | .val _ | .anyb => true | _ => false
  | _ => false

def intOf? : AV → Option Int
  | .val (.int _ n) => some n
  | _ => none

def aIndex (sz : Nat) (h : Hp) (x : AV) (i : Int) : Option AV :=
  match x with
  | .lst xs => if 0 ≤ i ∧ i < xs.length ∧ (cellsOf (xs.getD i.toNat .top)).length = sz then some (.pe (xs.getD i.toNat .top)) else none
  | .own id => match h id with
    | some b => if 0 ≤ i ∧ i < b.xs.length ∧ b.sz = sz then some (.po id i.toNat 0) else none
    | none => none
  | .ref id off len => match h id with
    | some b => if 0 ≤ i ∧ i < len ∧ b.sz = sz then some (.po id (off + i.toNat) 0) else none
    | none => none
  | _ => none
def uniB (sz : Nat) (xs : List AV) : Bool := xs.all fun x => (cellsOf x).length == sz

/-- A variable of a type, out of cells. -/
def takeVar (sh : Sh) (cs : List AV) : Option AV :=
  match sh with
  | .other => none
  | .struct _ sz _ => if sz ≤ cs.length then some (.agg (cs.take sz)) else none
  | _ => cs.head?

def aLoad (sh : Sh) (h : Hp) (p : AV) : Option AV :=
  match p with
  | .pe x => takeVar sh (cellsOf x)
  | .po id i off => match h id with
    | some b => takeVar sh ((cellsOf (b.xs.getD i .top)).drop off)
    | none => none
  | _ => none

def aStore (sh : Sh) (h : Hp) (p v : AV) : Option Hp :=
  match p with
  | .po id i off => match h id with
    | some b => match sh with
      | .other => none
      | .struct _ sz _ => if off = 0 ∧ sz = b.sz ∧ (cellsOf v).length = sz ∧ (cellsOf v).all cellAV = true ∧ notAgg v = false ∧ i < b.xs.length then some (upd h id (some { b with xs := b.xs.set i v })) else none
      | _ => if b.sz = 1 ∧ off = 0 ∧ notAgg v = true ∧ cellAV v = true ∧ i < b.xs.length ∧ notAgg (b.xs.getD i .top) = true then some (upd h id (some { b with xs := b.xs.set i v })) else none
    | none => none
  | _ => none

def bound? (ev : Operand → AV) (d : Int) : Option Operand → Option Int
  | none => some d
  | some x => intOf? (ev x)

def aSlice (sh : Sh) (h : Hp) (x : AV) (lo hi mx : Option Int) : Option AV :=
  match lenAV h x, lo, hi, mx with
  | some n, some l, some m, some c =>
    if 0 ≤ l ∧ l ≤ m ∧ m ≤ n ∧ m = c then
      match sh, x with
      | .slice _ sz _ _ _, .lst xs => if l = 0 ∨ uniB sz xs = true then some (.lst ((xs.take m.toNat).drop l.toNat)) else none
      | .slice _ sz _ _ _, .ref id off _ => if (h id).any (fun b => b.sz == sz) = true then some (.ref id (off + l.toNat) (m - l).toNat) else none
      | .slice _ sz _ _ _, .own id => if (h id).any (fun b => b.sz == sz) = true then some (.ref id l.toNat (m - l).toNat) else none
      | .str, .val (.string s) => some (vStr (s.extract l.toNat m.toNat))
      | _, _ => none
    else none
  | _, _, _, _ => none

def kill (id : Nat) (x : AV) : AV := if refId x = some id then .top else x
def killAll (ids : List Nat) (x : AV) : AV := match refId x with
  | some id => if id ∈ ids then .top else x
  | none => x
def eraseAll (ids : List Nat) (h : Hp) : Hp := fun i => if i ∈ ids then none else h i

/-- The function that a value calls. -/
def fnOf : AV → Option FuncId
  | .val (.func (.func f) fst cap) => if fst.size = 0 ∧ cap.size = 0 then some f else none
  | _ => none

def idxOk : List (Nat × Operand) → Nat → Bool
  | [], _ => true
  | (i, _) :: r, n => i == n && idxOk r (n + 1)

def elemOk (sz : Nat) (x : AV) : Bool := ((cellsOf x).length == sz) && (cellsOf x).all cellAV && (sz == 1 || !notAgg x) && (sz != 1 || notAgg x)

def ev (σ : St) : Operand → AV
  | .tmp t => σ.t t
  | .const v => .val v
  | .func f => .val (.func (.func f) #[] #[])
  | .global _ => .top

def aAppend (sh : Sh) (σ : St) (d : Nat) (s x : AV) : Option St :=
  match sh, elems σ.h x with
  | .slice e sz bytes _ _, some ys =>
    match s with
    | .own id => match σ.h id with
      | some b => if b.e = e ∧ b.sz = sz ∧ ys.all (elemOk sz) = true ∧ (b.xs.length + ys.length) * bytes ≤ 140737488355328 ∧ b.xs.length + ys.length ≤ 9223372036854775807 ∧ refId x ≠ some id then
          some ⟨upd (fun t => kill id (σ.t t)) d (.own id), upd σ.h id (some ⟨e, sz, b.xs ++ ys, none⟩)⟩ else none
      | none => none
    | .val (.slice none 0 0) => if ys.all (elemOk sz) = true ∧ ys.length * bytes ≤ 140737488355328 ∧ ys.length ≤ 9223372036854775807 ∧ (σ.h d).isNone = true then
        some ⟨upd σ.t d (.own d), upd σ.h d (some ⟨e, sz, ys, none⟩)⟩ else none
    | _ => none
  | _, _ => none

def aCall (Γ : FuncId → Spec) (σ : St) (d : Option Nat) (f : FuncId) (args : List AV) : Option St :=
  match Γ f with
  | .none => none
  | .pure sp => match sp (args.map (frz σ.h)) with
    | some r => if scalarAV r = true then some (σ.set d r)
      else some ⟨(St.set ⟨fun t => killAll (args.filterMap refId) (σ.t t), σ.h⟩ d r).t, eraseAll (args.filterMap refId) σ.h⟩
    | none => none
  | .owned sp => match d, sp (args.map (frz σ.h)) with
    | some d, some b => if (σ.h d).isNone = true ∧ (args.filterMap refId).isEmpty = true then some ⟨upd σ.t d (.own d), upd σ.h d (some ⟨b.e, b.sz, b.xs, none⟩)⟩ else none
    | _, _ => none
  | .inpl sp => match sp args σ.h with
    | some (r, h') => if refId r = none then some ⟨(σ.set d r).t, h'⟩ else none
    | none => none

def maxOk (sh : Sh) (hi mx : Option Operand) : Bool := mx.isNone || (hi.isSome && match sh with | .str => false | _ => true)

def astep (Θ : TypeId → Sh) (Γ : FuncId → Spec) (o : Oper) (σ : St) : Option St :=
  match o.op with
  | .move x | .assign x => some (σ.set o.dst (ev σ x))
  | .pick c a b => match ev σ c with
    | .val (.bool c) => some (σ.set o.dst (if c then ev σ a else ev σ b))
    | _ => none
  | .binOp op t x y _ => (aBin op (Θ t) (ev σ x) (ev σ y)).map (σ.set o.dst)
  | .unOp op _ x => (aUn op (ev σ x)).map (σ.set o.dst)
  | .convert s t x => (aConv (Θ s) (Θ t) (ev σ x) σ.h).map (σ.set o.dst)
  | .extract x i => match ev σ x with
    | .tup xs => (xs[i]?).map (σ.set o.dst)
    | _ => none
  | .indexAddr t x i => match Θ t, intOf? (ev σ i) with
    | .slice _ sz _ _ _, some i => (aIndex sz σ.h (ev σ x) i).map (σ.set o.dst)
    | _, _ => none
  | .index t x i => match Θ t, ev σ x, intOf? (ev σ i) with
    | .str, .val (.string s), some i => if h : 0 ≤ i ∧ i.toNat < s.size then some (σ.set o.dst (vInt .u8 (s[i.toNat]'h.2).toNat)) else none
    | _, _, _ => none
  | .load t p => (aLoad (Θ t) σ.h (ev σ p)).map (σ.set o.dst)
  | .store t p x => (aStore (Θ t) σ.h (ev σ p) (ev σ x)).map fun h' => ⟨(σ.set o.dst .top).t, h'⟩
  | .slice t x lo hi mx => match lenAV σ.h (ev σ x) with
    | some n => match bound? (ev σ) 0 lo, bound? (ev σ) n hi with
      | some l, some m => if bound? (ev σ) m mx = some m ∧ maxOk (Θ t) hi mx = true then (aSlice (Θ t) σ.h (ev σ x) (some l) (some m) (some m)).map (σ.set o.dst) else none
      | _, _ => none
    | none => none
  | .makeSlice t n m => match Θ t, ev σ n, ev σ m, o.dst with
    | .slice e sz bytes z _, .val (.int _ n), .val (.int _ m), some d =>
      if n = m ∧ 0 ≤ n ∧ bytes * n ≤ 281474976710656 ∧ n ≤ 9223372036854775807 ∧ (σ.h d).isNone = true then some ⟨upd σ.t d (.own d), upd σ.h d (some ⟨e, sz, List.replicate n.toNat z, none⟩)⟩ else none
    | _, _, _, _ => none
  | .buildSlice t n ps => match Θ t, o.dst with
    | .slice e sz _ _ _, some d =>
      if n = 0 then (if ps.size = 0 ∧ sz ≤ 100 ∧ (σ.h d).isNone = true then some ⟨upd σ.t d (.own d), upd σ.h d (some ⟨e, sz, [], none⟩)⟩ else none)
      else if idxOk ps.toList 0 = true ∧ ps.size = n ∧ n ≤ 100 ∧ sz ≤ 100 ∧ (ps.toList.map fun p => ev σ p.2).all (elemOk sz) = true then some (σ.set o.dst (.lst (ps.toList.map fun p => ev σ p.2))) else none
    | _, _ => none
  | .call c => match c.callee with
    | .builtin .len => match c.argTypes.toList, c.args.toList with
      | [t], [x] => match Θ t with
        | .slice .. => match ev σ x with
          | .val (.string _) => none
          | x => (lenAV σ.h x).map fun n => σ.set o.dst (vInt .i64 n)
        | .str => match ev σ x with
          | .val (.string s) => some (σ.set o.dst (vInt .i64 s.size))
          | _ => none
        | _ => none
      | _, _ => none
    | .builtin .append => match c.argTypes.toList, c.args.toList, o.dst with
      | [t, u], [s, x], some d => if t = u then aAppend (Θ t) σ d (ev σ s) (ev σ x) else none
      | _, _, _ => none
    | .builtin .max => match c.args.toList with
      | [x, y] => match ev σ x, ev σ y with
        | .val (.int k a), .val (.int _ b) => some (σ.set o.dst (vInt k (if b > a then b else a)))
        | _, _ => none
      | _ => none
    | .value f => match fnOf (ev σ f) with
      | some f => aCall Γ σ o.dst f (c.args.toList.map (ev σ))
      | none => none
    | _ => none
  | _ => none

end Go.Abs
