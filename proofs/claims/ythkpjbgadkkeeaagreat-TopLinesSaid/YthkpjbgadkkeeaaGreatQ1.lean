/- Parts of the proof, joined: An abstract interpreter of the model's code on plain data: definitions alone. Slices are lists by value; boxed variables and maps lie in a small heap of their own. What it is for a value of the model to be the value that the abstract interpreter has, in a world; and how that is kept. How the relation between the small heap and the world is kept by what operations do. The model's operations on plain values run as the abstract interpreter says. Operations that lay nothing and turn nothing: the model's run of each, by the abstract interpreter's word. Loads, places, comparisons, parts: the model's run of each, by the abstract interpreter's word. Comparisons of rows, parts of rows and slices: the model's run of each, by the abstract interpreter's word. Places of fields and elements, parts, lengths: the model's run of each, by the abstract interpreter's word. Indexing, slicing, lengths, least and greatest: the model's run of each, by the abstract interpreter's word. Operations that lay something new or turn what is there: the model's run of each, by the abstract interpreter's word. 'append': the model's run, by the abstract interpreter's word. 'append': the model's run, by the abstract interpreter's word. Literals of structs, arrays, slices: the model's run, by the abstract interpreter's word. Conditions: those of each law. -/
import Derived.RangeFuncLeaves
import Derived.RangeFuncCalls
import Derived.WalkKit
import Derived.ChangeKeysEq
import Derived.Laws.StructEq
import Derived.Laws.Append
import Derived.Great.BuildSlice
set_option linter.unusedSimpArgs false
set_option linter.unusedVariables false
namespace Go.Proofs.YthkpjbgadkkeeaaGreat
section
inductive AV where
 | int (k : IntKind) (n : Int)
 | bool (b : Bool)
 | str (s : ByteArray)
 | nilp
 | nilf
 | nilm
 | lst (tag sz : Nat) (xs : List AV)
 | bsl (b off len sz : Nat)
 | ref (b off : Nat)
 | eptr (c : List AV)
 | clo (f : Nat) (fst cap : List AV)
 | yld (l : Nat)
 | mapr (b : Nat)
 | agg (c : List AV)
 | tup (xs : List AV)
 | und
 | junk
 deriving Inhabited
abbrev Slots := List (Nat × AV)
noncomputable def agetOr (r : Slots) (t : Nat) (d : AV) : AV :=
 List.rec d (fun p _ ih => match Nat.beq t p.1 with | true => p.2 | false => ih) r
noncomputable def asetK {β : Type} (r : Slots) (t : Nat) (v : AV) : (Slots → β) → β :=
 List.rec (fun k => k [(t, v)])
  (fun p r ih k => match Nat.beq t p.1 with
   | true => k ((t, v) :: r)
   | false => match Nat.blt t p.1 with
    | true => k ((t, v) :: p :: r)
    | false => ih fun r => k (p :: r)) r
noncomputable def adelK {β : Type} (r : Slots) (t : Nat) : (Slots → β) → β :=
 List.rec (fun k => k [])
  (fun p _ ih k => match Nat.beq t p.1 with
   | true => ih k
   | false => ih fun r => k (p :: r)) r
noncomputable def isIn (t : Nat) (L : List Nat) : Bool :=
 List.rec false (fun j _ ih => match Nat.beq t j with | true => true | false => ih) L
structure Frm where
 g : Slots
 l : Slots
noncomputable def getF (fr : Frm) (t : Nat) : AV := agetOr fr.l t (agetOr fr.g t .junk)
noncomputable def setFK {β : Type} (L : List Nat) (fr : Frm) (t : Nat) (v : AV) (k : Frm → β) : β :=
 match isIn t L with
 | true => asetK fr.g t v fun g => k ⟨g, fr.l⟩
 | false => k ⟨fr.g, (t, v) :: fr.l⟩
inductive AExit where
 | normal
 | exit (id : Nat)
 | ret
inductive ABlk where
 | none
 | cells (c : List AV)
 | map (es : List (AV × AV)) 
 | siter (s : ByteArray) (pos : Nat)
 | mit (b n : Nat) (left : List Nat) (cur : Option Nat)
 | mark
 | loop (busy : Bool) (pend : AExit) (done : Bool) (f : Nat) (fr : Frm) (ps : List Tmp) (asg body : Code)
structure Heap where
 b : List ABlk
 t : List Bool
def Heap.put (h : Heap) (b : Nat) (x : ABlk) : Heap := ⟨h.b.set b x, h.t⟩
structure St where
 fr : Frm
 h : Heap
 ms : List Nat
def AV.cells : AV → List AV
 | .agg c => c
 | v => [v]
def AV.one : AV → Bool
 | .agg _ | .tup _ | .und | .junk => false
 | _ => true
def AV.var : AV → Bool
 | .agg c => c.all AV.one
 | v => v.one
mutual
def AV.under (n : Nat) : AV → Bool
 | .lst _ _ xs => underL n xs
 | .bsl b _ _ _ => decide (b < n)
 | .ref b _ => decide (b < n)
 | .eptr c => underL n c
 | .clo _ f c => underL n f && underL n c
 | .yld l => decide (l < n)
 | .mapr b => decide (b < n)
 | .agg c => underL n c
 | .tup xs => underL n xs
 | .int _ _ | .bool _ | .str _ | .nilp | .nilf | .nilm => true
 | .und | .junk => true
def underL (n : Nat) : List AV → Bool
 | [] => true
 | x :: xs => x.under n && underL n xs
end
mutual
def AV.clean : AV → Option AV
 | .lst _ sz xs => match cleanL xs with | some ys => some (.lst 0 sz ys) | none => none
 | .agg c => match cleanL c with | some d => some (.agg d) | none => none
 | .tup c => match cleanL c with | some d => some (.tup d) | none => none
 | .int k n => some (.int k n)
 | .bool b => some (.bool b)
 | .str s => some (.str s)
 | .nilp => some .nilp
 | .nilf => some .nilf
 | .nilm => some .nilm
 | .clo f [] [] => some (.clo f [] [])
 | _ => none
def cleanL : List AV → Option (List AV)
 | [] => some []
 | x :: xs => match x.clean, cleanL xs with
  | some y, some ys => some (y :: ys)
  | _, _ => none
end
def ofCell : Value → Option AV
 | .int k n => some (.int k n)
 | .bool b => some (.bool b)
 | .string s => some (.str s)
 | .pointer none => some .nilp
 | .nilFunc => some .nilf
 | .map none => some .nilm
 | .slice none 0 0 => some (.lst 1 0 [])
 | _ => none
def ofCells : List Value → Option (List AV)
 | [] => some []
 | v :: vs => match ofCell v, ofCells vs with
  | some x, some xs => some (x :: xs)
  | _, _ => none
def ofValue : Value → Option AV
 | .agg cs => (ofCells cs.toList).map .agg
 | v => ofCell v
inductive Row where
 | slice (elem : TypeId)
 | array (len : Nat) (elem : TypeId)
 | str
 | none
inductive Tr (α : Type) where
 | nil
 | node (x : α) (l r : Tr α)
def alt {α : Type} : Bool → List α → List α
 | _, [] => []
 | true, x :: xs => x :: alt false xs
 | false, _ :: xs => alt true xs
def Tr.of {α : Type} : Nat → List α → Tr α
 | 0, _ => .nil
 | _ + 1, [] => .nil
 | n + 1, x :: xs => .node x (Tr.of n (alt true xs)) (Tr.of n (alt false xs))
def Tr.get {α : Type} : Tr α → Nat → Option α
 | .nil, _ => none
 | .node x l r, n => match n with
  | 0 => some x
  | n + 1 => match n % 2 with
   | 0 => l.get (n / 2)
   | _ => r.get (n / 2)
structure TI where
 sz : Nat
 bytes : Nat
 ag : Bool
 row : Row
 ik : Option IntKind
 flds : List (Nat × Nat × Bool)
 zero : Option AV
 mp : Option (TypeId × TypeId)
 eqt : Option (List Nat)
 isBool : Bool
 isRef : Bool
 fok : Bool
 und : Bool
def aggOf (P : Program) (t : TypeId) : Bool :=
 match P.underlying t with
 | some (.struct _) | some (.array _ _) => true
 | _ => false
def sizeIn (P : Program) (t : TypeId) : Nat := ((P.info? t).map (·.size)).getD 0
def intIn (P : Program) (t : TypeId) : Option IntKind :=
 match P.underlying t with
 | some (.int k) => some k
 | _ => none
def plainKind (P : Program) (t : TypeId) : Option Nat :=
 match P.underlying t with
 | some (.int _) => some 0
 | some .bool => some 1
 | some .string => some 2
 | _ => none
def fieldKinds (P : Program) : Nat → List Field → Option (List Nat)
 | _, [] => some []
 | i, f :: fs =>
  if f.name ≠ "_" ∧ f.offset = i ∧ sizeIn P f.type = 1 then
   match plainKind P f.type, fieldKinds P (i + 1) fs with
   | some k, some ks => some (k :: ks)
   | _, _ => none
  else none
def eqIn (P : Program) (t : TypeId) : Option (List Nat) :=
 if P.eqGuardType P.depth t then none else
 match P.underlying t with
 | some (.array n e) => if sizeIn P e = 1 then (plainKind P e).map fun k => List.replicate n k else none
 | some (.struct fs) => if P.stoodInHeld t then none else fieldKinds P 0 fs.toList
 | _ => none
def tiOf (P : Program) (t : TypeId) (i : TypeInfo) : TI :=
  { sz := i.size, bytes := i.bytes, ag := aggOf P t
    row := match P.underlying t with | some (.slice e) => .slice e | some (.array n e) => .array n e | some .string => .str | _ => .none
    ik := intIn P t
    flds := match P.underlying t with | some (.struct fs) => fs.toList.map fun f => (f.offset, (if (P.underlying f.type).isSome then sizeIn P f.type else 0), aggOf P f.type) | _ => []
    zero := i.zero.bind ofValue
    mp := match P.underlying t with | some (.map k e) => some (k, e) | _ => none
    eqt := eqIn P t
    isBool := match P.underlying t with | some .bool => true | _ => false
    und := (P.underlying t).isSome
    fok := match P.underlying t with | some (.struct fs) => fs.toList.all (fun f => (P.info? f.type).isSome) | _ => false
    isRef := match P.underlying t with | some (.pointer _) | some (.func _ _ _) | some (.map _ _) => true | _ => false }

structure Tab where
 fn : Tr Func
 ty : Tr TI
 keep : Nat → List Nat
 hush : Nat → Nat → Bool
 solo : Nat → Nat → List (List (Nat × Bool))
 grow : Nat → Nat → Bool
 ice : Nat → Nat → Option (Nat × Nat)
 orc : Nat → Option (List AV → Option AV)
abbrev deepMark : Nat := 999999
abbrev wideMark : Nat := 999998
def tisOf (P : Program) : Nat → List TypeInfo → List TI
 | _, [] => []
 | t, i :: r => tiOf P t i :: tisOf P (t + 1) r
def Tab.of (P : Program) (keep : Nat → List Nat) (hush : Nat → Nat → Bool) (solo : Nat → Nat → List (List (Nat × Bool))) (grow : Nat → Nat → Bool) (ice : Nat → Nat → Option (Nat × Nat)) : Tab :=
 { fn := Tr.of 1000 P.funcs.toList, ty := Tr.of 1000 (tisOf P 0 P.types.toList), keep, hush, solo, grow, ice, orc := fun _ => none }
variable (X : Tab)
def tsz (t : TypeId) : Nat := match X.ty.get t with | some i => i.sz | none => 0
def tbytes (t : TypeId) : Nat := match X.ty.get t with | some i => i.bytes | none => 0
def tfield (t : TypeId) (f : Nat) : Option (Nat × Nat × Bool) := match X.ty.get t with | some i => i.flds[f]? | none => none
def trow (t : TypeId) : Row := match X.ty.get t with | some i => i.row | none => .none
def tint (t : TypeId) : Option IntKind := match X.ty.get t with | some i => i.ik | none => none
def tzero (t : TypeId) : Option AV := match X.ty.get t with | some i => i.zero | none => none
def tmap (t : TypeId) : Option (TypeId × TypeId) := match X.ty.get t with | some i => i.mp | none => none
def teq (t : TypeId) : Option (List Nat) := match X.ty.get t with | some i => i.eqt | none => none
def tbool (t : TypeId) : Bool := match X.ty.get t with | some i => i.isBool | none => false
def tref (t : TypeId) : Bool := match X.ty.get t with | some i => i.isRef | none => true
def tfok (t : TypeId) : Bool := match X.ty.get t with | some i => i.fok | none => false
def known (t : TypeId) : Bool := match X.ty.get t with | some i => i.und | none => false
noncomputable def evo (fr : Frm) : Operand → AV
 | .tmp t => getF fr t
 | .const v => (ofValue v).getD .junk
 | .func f => .clo f [] []
 | .global _ => .junk
noncomputable def evoL (fr : Frm) : List Operand → List AV
 | [] => []
 | x :: xs => evo fr x :: evoL fr xs
def pickAV (c : Bool) (a b : AV) : AV :=
 match a, b with
 | .bool x, .bool y => .bool (if c then x else y)
 | _, _ => if c then a else b
def loadAV (t : TypeId) (c : List AV) : Option AV :=
 match X.ty.get t with
 | some i =>
  if i.und then
   if i.ag then (if i.sz ≤ c.length then some (.agg (c.take i.sz)) else none)
   else c[0]?
  else none
 | none => none
def splice (c : List AV) (off : Nat) : List AV → List AV
 | [] => c
 | v :: vs => splice (c.set off v) (off + 1) vs
def lset {α : Type} (l : List α) (p : Nat) (x : α) : List α := if p < l.length then l.set p x else l ++ [x]
def hput (h : Heap) (p : Nat) (b : ABlk) : Heap := ⟨lset h.b p b, h.t⟩
def fillAV (cells : List AV) : List (Nat × Nat × AV) → Option (List AV)
 | [] => some cells
 | (off, size, v) :: rest =>
  if v.cells.length = size ∧ 0 < size ∧ off + size ≤ cells.length ∧ v.var then fillAV (splice cells off v.cells) rest else none
noncomputable def fieldParts (t : TypeId) (fr : Frm) : List (Nat × Operand) → Option (List (Nat × Nat × AV))
 | [] => some []
 | (i, x) :: r => match tfield X t i, fieldParts t fr r with
  | some (off, size, _), some ps => some ((off, size, evo fr x) :: ps)
  | _, _ => none
noncomputable def rowParts (size : Nat) (fr : Frm) : List (Nat × Operand) → List (Nat × Nat × AV)
 | [] => []
 | (i, x) :: r => (i * size, size, evo fr x) :: rowParts size fr r
noncomputable def buildAV (t : TypeId) (fr : Frm) (parts : List (Nat × Operand)) : Option AV :=
 match tzero X t with
 | some (.agg z) =>
  match trow X t with
  | .array _ e => if 0 < tsz X e then (fillAV z (rowParts (tsz X e) fr parts)).map .agg else none
  | .none => if tfok X t then match fieldParts X t fr parts with
   | some ps => (fillAV z ps).map .agg
   | none => none
   else none
  | _ => none
 | _ => none
noncomputable def litParts (size : Nat) (fr : Frm) : Nat → List (Nat × Operand) → Option (List AV)
 | _, [] => some []
 | i, (j, x) :: r =>
  if j = i ∧ (evo fr x).var ∧ (evo fr x).cells.length = size then
   match litParts size fr (i + 1) r with
   | some xs => some (evo fr x :: xs)
   | none => none
  else none
def cmpInt (o : BinOp) (a b : Int) : Option Bool :=
 match o with
 | .eql => some (a == b)
 | .neq => some (a != b)
 | .lss => some (decide (a < b))
 | .leq => some (decide (a ≤ b))
 | .gtr => some (decide (a > b))
 | .geq => some (decide (a ≥ b))
 | _ => none
def eqCells : List Nat → List AV → List AV → Option Bool
 | [], [], [] => some true
 | 0 :: ks, .int k a :: xs, .int j b :: ys => if k = j then (eqCells ks xs ys).map (a == b && ·) else none
 | 1 :: ks, .bool a :: xs, .bool b :: ys => (eqCells ks xs ys).map (a == b && ·)
 | 2 :: ks, .str a :: xs, .str b :: ys => (eqCells ks xs ys).map (a == b && ·)
 | _, _, _ => none
def intBin (o : BinOp) (k : IntKind) (a b : Int) : Option AV :=
 match o with
 | .add => some (.int k (k.wrap (a + b)))
 | .sub => some (.int k (k.wrap (a - b)))
 | .mul => some (.int k (k.wrap (a * b)))
 | .quo => if b = 0 then none else some (.int k (k.wrap (a.tdiv b)))
 | .rem => if b = 0 then none else some (.int k (a.tmod b))
 | .and => some (.int k (k.wrap (BitVec.ofInt k.bits a &&& BitVec.ofInt k.bits b).toNat))
 | .or => some (.int k (k.wrap (BitVec.ofInt k.bits a ||| BitVec.ofInt k.bits b).toNat))
 | _ => (cmpInt o a b).map .bool
def shiftAV (o : BinOp) (k : IntKind) (a b : Int) : Option AV :=
 if b < 0 then none else
 match o with
 | .shl => some (.int k (k.wrap (a * 2 ^ (min b.toNat k.bits))))
 | .shr => some (.int k (a.fdiv (2 ^ (min b.toNat k.bits))))
 | _ => none
def isShift : BinOp → Bool
 | .shl | .shr => true
 | _ => false
def boolBin (o : BinOp) (xt : TypeId) (a b : Bool) : Option AV :=
 if tbool X xt then
  match o with
  | .eql => some (.bool (a == b))
  | .neq => some (.bool (a != b))
  | _ => none
 else none
def strBin (o : BinOp) (a b : ByteArray) : Option AV :=
 match o with
 | .eql => some (.bool (a == b))
 | .neq => some (.bool (a != b))
 | _ => none
def aggBin (o : BinOp) (xt : TypeId) (a b : List AV) : Option AV :=
 match teq X xt with
 | some ks =>
  match o with
  | .eql => (eqCells ks a b).map .bool
  | .neq => (eqCells ks a b).map fun r => .bool (!r)
  | _ => none
 | none => none
def nilAV (o : BinOp) (xt : TypeId) (z : Nat) (xs : List AV) : Option AV :=
 match trow X xt, o with
 | .slice _, .eql => if 0 < xs.length then some (.bool false) else if z = 0 then some (.bool true) else none
 | .slice _, .neq => if 0 < xs.length then some (.bool true) else if z = 0 then some (.bool false) else none
 | _, _ => none
def binAV (o : BinOp) (xt : TypeId) (x y : AV) : Option AV :=
 match x, y with
 | .int k a, .int j b => if isShift o then shiftAV o k a b else if k = j then intBin o k a b else none
 | .bool a, .bool b => boolBin X o xt a b
 | .str a, .str b => strBin o a b
 | .agg a, .agg b => aggBin X o xt a b
 | .lst _ z xs, .lst 1 0 [] => nilAV X o xt z xs
 | _, _ => none
def unAV (o : UnOp) (x : AV) : Option AV :=
 match o, x with
 | .neg, .int k n => some (.int k (k.wrap (0 - n)))
 | .not, .bool b => some (.bool !b)
 | .xor, .int .i64 n => some (.int .i64 (IntKind.i64.wrap (BitVec.ofInt 64 (-1) ^^^ BitVec.ofInt 64 n).toNat))
 | _, _ => none
def idxAV (t : TypeId) (x i : AV) : Option AV :=
 match i with
 | .int _ n =>
  if n < 0 then none else
  match trow X t, x with
  | .slice e, .lst _ sz xs => match xs[n.toNat]? with
   | some v => if sz = tsz X e ∧ 0 < sz then some (.eptr v.cells) else none
   | none => none
  | .slice e, .bsl b off len sz => if n.toNat < len ∧ sz = tsz X e ∧ 0 < sz then some (.ref b (off + n.toNat * sz)) else none
  | .array len e, .ref b off => if n.toNat < len ∧ 0 < tsz X e then some (.ref b (off + n.toNat * tsz X e)) else none
  | .array len e, .eptr c => if n.toNat < len ∧ 0 < tsz X e then some (.eptr (c.drop (n.toNat * tsz X e))) else none
  | _, _ => none
 | _ => none
noncomputable def bound (fr : Frm) (d : Nat) : Option Operand → Option Nat
 | none => some d
 | some x => match evo fr x with
  | .int _ n => if n < 0 then none else some n.toNat
  | _ => none
noncomputable def sliceAV (t : TypeId) (x : AV) (fr : Frm) (lo hi : Option Operand) : Option AV :=
 match trow X t, x with
 | .slice e, .lst _ sz xs =>
  match bound fr 0 lo, bound fr xs.length hi with
  | some l, some u => if l ≤ u ∧ u ≤ xs.length ∧ sz = tsz X e ∧ 0 < sz then some (.lst 0 sz ((xs.take u).drop l)) else none
  | _, _ => none
 | .array n e, .eptr c =>
  match bound fr 0 lo, bound fr n hi with
  | some l, some u => if l ≤ u ∧ u ≤ n ∧ tsz X e = 1 ∧ n ≤ c.length ∧ c.all AV.one then some (.lst 0 1 ((c.take u).drop l)) else none
  | _, _ => none
 | .array n e, .ref b off =>
  match bound fr 0 lo, bound fr n hi with
  | some l, some u => if l ≤ u ∧ u ≤ n ∧ tsz X e = 1 then some (.bsl b (off + l) (u - l) 1) else none
  | _, _ => none
 | .str, .str s =>
  match bound fr 0 lo, bound fr s.size hi with
  | some l, some u => if l ≤ u ∧ u ≤ s.size then some (.str (s.extract l u)) else none
  | _, _ => none
 | _, _ => none
def appLimit : Nat := 140737488355328
def zeroFits (e : TypeId) : Bool := match tzero X e with | some z => z.cells.length == tsz X e && z.var | none => false
def appendAV (t : TypeId) (p : Nat) (h : Heap) (x y : AV) : Option (AV × Heap) :=
 match trow X t with
 | .slice e =>
  match x, y with
  | .lst tag sz xs, .lst _ sz' ys =>
   if (sz' = tsz X e ∨ ys.length = 0) ∧ 0 < tsz X e ∧ (xs.length + ys.length) * tbytes X e ≤ appLimit ∧ xs.length + ys.length ≤ appLimit ∧ zeroFits X e ∧ ys.all AV.var then
    match tag with
    | 0 => none
    | 1 => if (sz = tsz X e ∨ xs.length = 0) ∧ (xs.length = 0 ∨ 0 < ys.length) then some (.lst (p + 2) (tsz X e) (xs ++ ys), ⟨h.b, lset h.t p true⟩) else none
    | k + 2 => if sz = tsz X e then match h.t[k]? with
     | some true => some (.lst (p + 2) (tsz X e) (xs ++ ys), ⟨h.b, lset (h.t.set k false) p true⟩)
     | _ => none
     else none
   else none
  | _, _ => none
 | _ => none
def lookAV (ks : List Nat) : List (AV × AV) → List AV → Option (Option AV)
 | [], _ => some none
 | (.agg k, v) :: r, key => match eqCells ks key k with
  | some true => some (some v)
  | some false => lookAV ks r key
  | none => none
 | _ :: _, _ => none
def putAV (ks : List Nat) : List (AV × AV) → List AV → AV → Option (List (AV × AV))
 | [], key, v => some [(.agg key, v)]
 | (.agg k, u) :: r, key, v => match eqCells ks key k with
  | some true => some ((.agg key, v) :: r)
  | some false => (putAV ks r key v).map ((.agg k, u) :: ·)
  | none => none
 | _ :: _, _, _ => none
def opPick (c a b : AV) (h : Heap) : Option (AV × Heap) :=
 match c with
 | .bool t => some (pickAV t a b, h)
 | _ => none
def opAlloc (p : Nat) (t : TypeId) (h : Heap) : Option (AV × Heap) :=
 match tzero X t with
 | some z => some (.ref p 0, hput h p (.cells z.cells))
 | none => none
def opBox (p : Nat) (v : AV) (h : Heap) : Option (AV × Heap) :=
 if v.var ∧ v.under (p + 1) then some (.ref p 0, hput h p (.cells v.cells)) else none
noncomputable def opBuildSlice (t : TypeId) (len : Nat) (fr : Frm) (parts : List (Nat × Operand)) (h : Heap) : Option (AV × Heap) :=
 match trow X t with
 | .slice e => match litParts (tsz X e) fr 0 parts with
  | some xs => if xs.length = len ∧ 0 < tsz X e ∧ len * tsz X e ≤ 1048576 ∧ zeroFits X e then some (.lst 1 (tsz X e) xs, h) else none
  | none => none
 | _ => none
def opLoad (t : TypeId) (a : AV) (h : Heap) : Option (AV × Heap) :=
 match a with
 | .ref b off => match h.b[b]? with
  | some (.cells c) => (loadAV X t (c.drop off)).map (·, h)
  | _ => none
 | .eptr c => (loadAV X t c).map (·, h)
 | _ => none
def opStore (p : Nat) (t : TypeId) (a v : AV) (h : Heap) : Option (AV × Heap) :=
 match a with
 | .ref b off => match h.b[b]? with
  | some (.cells c) =>
   if v.var ∧ (v.under (b + 1) = true ∨ p ≤ b) ∧ 0 < v.cells.length ∧ v.cells.length = tsz X t ∧ off + tsz X t ≤ c.length then some (.junk, h.put b (.cells (splice c off v.cells))) else none
  | _ => none
 | _ => none
def opNil (v : AV) (h : Heap) : Option (AV × Heap) :=
 match v with
 | .ref b off => some (.ref b off, h)
 | .eptr c => some (.eptr c, h)
 | _ => none
def opConvert (s t : TypeId) (v : AV) (h : Heap) : Option (AV × Heap) :=
 match v with
 | .int _ n => match tint X t with
  | some k => if known X s then some (.int k (k.wrap n), h) else none
  | none => none
 | _ => none
def opFieldAddr (t : TypeId) (x : AV) (f : Nat) (h : Heap) : Option (AV × Heap) :=
 match tfield X t f with
 | some (off, size, _) =>
  if 0 < size then
   match x with
   | .ref b o => some (.ref b (o + off), h)
   | .eptr c => some (.eptr (c.drop off), h)
   | _ => none
  else none
 | none => none
def opField (t : TypeId) (x : AV) (f : Nat) (h : Heap) : Option (AV × Heap) :=
 match x with
 | .agg c => match tfield X t f with
  | some (off, size, ag) =>
   if 0 < size then
    if ag then (if off + size ≤ c.length then some (.agg ((c.drop off).take size), h) else none)
    else (c[off]?).map (·, h)
   else none
  | none => none
 | _ => none
def opIndex (t : TypeId) (x i : AV) (h : Heap) : Option (AV × Heap) :=
 match i with
 | .int _ n => if n < 0 then none else
  match trow X t, x with
  | .array len e, .agg c => if n < len then (loadAV X e (c.drop (n.toNat * tsz X e))).map (·, h) else none
  | .str, .str s => (s[n.toNat]?).map fun b => (.int .u8 b.toNat, h)
  | _, _ => none
 | _ => none
def opLookup (t : TypeId) (m k : AV) (ok : Bool) (h : Heap) : Option (AV × Heap) :=
 match m, k with
 | .mapr b, .agg key => match tmap X t, h.b[b]? with
  | some (kt, et), some (.map es) => match teq X kt with
   | some ks => if eqCells ks key key = some true then
    match lookAV ks es key, tzero X et with
    | some (some v), _ => some (if ok then .tup [v, .bool true] else v, h)
    | some none, some z => some (if ok then .tup [z, .bool false] else z, h)
    | _, _ => none
    else none
   | none => none
  | _, _ => none
 | _, _ => none
def opMapUpdate (t : TypeId) (m k v : AV) (h : Heap) : Option (AV × Heap) :=
 match m, k with
 | .mapr b, .agg key => match tmap X t, h.b[b]? with
  | some (kt, _), some (.map es) => match teq X kt with
   | some ks =>
    if v.var ∧ v.under (b + 1) ∧ eqCells ks key key = some true then
     match putAV ks es key v with
     | some es' => some (.junk, h.put b (.map es'))
     | none => none
    else none
   | none => none
  | _, _ => none
 | _, _ => none
def ixAV (ks : List Nat) : List (AV × AV) → List AV → Option (Option Nat)
 | [], _ => some none
 | (.agg k, _) :: r, key => match eqCells ks key k with
  | some true => some (some 0)
  | some false => (ixAV ks r key).map (·.map (· + 1))
  | none => none
 | _ :: _, _ => none
def opMapEntry (t : TypeId) (m k : AV) (h : Heap) : Option (AV × Heap) :=
 match m, k with
 | .mapr b, .agg key => match tmap X t, h.b[b]? with
  | some (kt, et), some (.map es) => match teq X kt with
   | some ks => if eqCells ks key key = some true then match ixAV ks es key with
    | some (some j) => match es[j]? with
     | some e => some (.tup [e.2, .int .i64 j], h.put b (.map (es.set j (.agg key, e.2))))
     | none => none
    | some none => match tzero X et with
     | some z => some (.tup [z, .int .i64 es.length], h.put b (.map (es ++ [(.agg key, z)])))
     | none => none
    | none => none
    else none
   | none => none
  | _, _ => none
 | _, _ => none
def opEntryStore (m s v : AV) (h : Heap) : Option (AV × Heap) :=
 match m, s with
 | .mapr b, .int .i64 n => match h.b[b]? with
  | some (.map es) => if 0 ≤ n ∧ v.var ∧ v.under (b + 1) then match es[n.toNat]? with
   | some e => some (.junk, h.put b (.map (es.set n.toNat (e.1, v))))
   | none => none
   else none
  | _ => none
 | _, _ => none
def opRange (p : Nat) (t : TypeId) (v : AV) (h : Heap) : Option (AV × Heap) :=
 match trow X t, v with
 | .str, .str s => some (.ref p 0, hput h p (.siter s 0))
 | _, .mapr b => match tmap X t, h.b[b]? with
  | some _, some (.map es) => if b < p then some (.ref p 0, hput h p (.mit b es.length (List.range es.length) none)) else none
  | _, _ => none
 | _, _ => none
def opEntry (it : AV) (h : Heap) : Option (AV × Heap) :=
 match it with
 | .ref j 0 => match h.b[j]? with
  | some (.mit b n _ (some i)) => match h.b[b]? with
   | some (.map es) => if es.length = n then match es[i]? with
    | some e => some (.tup [e.1, e.2], h)
    | none => none
    else none
   | _ => none
  | _ => none
 | _ => none
def opNext (it : AV) (h : Heap) : Option (AV × Heap) :=
 match it with
 | .ref b 0 => match h.b[b]? with
  | some (.siter s pos) =>
   if pos < s.size then
    some (.tup [.bool true, .int .i64 pos, .int .i32 (Utf8.decode s pos).1], h.put b (.siter s (pos + (Utf8.decode s pos).2)))
   else some (.tup [.bool false], h)
  | _ => none
 | _ => none
def opExtract (v : AV) (ix : Nat) (h : Heap) : Option (AV × Heap) :=
 match v with
 | .tup vs => (vs[ix]?).map (·, h)
 | _ => none
def opMakeSlice (p : Nat) (t : TypeId) (l c : AV) (h : Heap) : Option (AV × Heap) :=
 match trow X t, l, c with
 | .slice e, .int _ n, .int _ m => match tzero X e with
  | some z => if 0 ≤ n ∧ n = m ∧ n ≤ 4096 ∧ tbytes X e ≤ 4096 ∧ z.one ∧ tsz X e = 1 then
   some (.bsl p 0 n.toNat 1, hput h p (.cells (List.replicate n.toNat z))) else none
  | none => none
 | _, _, _ => none
def opLen (ts : List TypeId) (vs : List AV) (h : Heap) : Option (AV × Heap) :=
 match ts, vs with
 | [t], [v] => match trow X t, v with
  | .slice _, .lst _ _ xs => some (.int .i64 xs.length, h)
  | .slice _, .bsl _ _ n _ => some (.int .i64 n, h)
  | .str, .str s => some (.int .i64 s.size, h)
  | .array n _, _ => some (.int .i64 n, h)
  | _, .mapr b => match tmap X t, h.b[b]? with
   | some _, some (.map es) => some (.int .i64 es.length, h)
   | _, _ => none
  | _, _ => none
 | _, _ => none
def opAppend (p : Nat) (ts : List TypeId) (vs : List AV) (h : Heap) : Option (AV × Heap) :=
 match ts, vs with
 | [t, u], [x, y] => if known X u ∧ (tint X u).isNone then appendAV X t p h x y else none
 | _, _ => none
def opMin (vs : List AV) (h : Heap) : Option (AV × Heap) :=
 match vs with
 | [.int k a, .int j b] => if k = j then some (.int k (if b < a then b else a), h) else none
 | _ => none
def opMax (vs : List AV) (h : Heap) : Option (AV × Heap) :=
 match vs with
 | [.int k a, .int j b] => if k = j then some (.int k (if b > a then b else a), h) else none
 | _ => none
def opCopy (ts : List TypeId) (vs : List AV) (h : Heap) : Option (AV × Heap) :=
 match ts, vs with
 | t :: _, [.bsl b off len sz, .lst _ sz' xs] => match trow X t, h.b[b]? with
  | .slice e, some (.cells c) =>
   if sz = tsz X e ∧ sz = 1 ∧ sz' = 1 ∧ off + len ≤ c.length ∧ xs.all AV.one ∧ underL (b + 1) xs ∧ 0 < len then
    some (.int .i64 (min xs.length len : Nat), h.put b (.cells (splice c off (xs.take len))))
   else if sz = tsz X e ∧ sz = 1 ∧ sz' = 1 ∧ len = 0 then some (.int .i64 0, h)
   else none
  | _, _ => none
 | t :: _, [.bsl b off len sz, .bsl b2 off2 len2 sz2] => match trow X t, h.b[b]?, h.b[b2]? with
  | .slice e, some (.cells c), some (.cells c2) =>
   if sz = tsz X e ∧ sz = 1 ∧ sz2 = 1 ∧ off + len ≤ c.length ∧ off2 + len2 ≤ c2.length ∧ c2.all AV.one ∧ underL (b + 1) c2 ∧ 0 < len ∧ 0 < len2 then
    some (.int .i64 (min len2 len : Nat), h.put b (.cells (splice c off ((c2.drop off2).take (min len2 len)))))
   else if sz = tsz X e ∧ sz = 1 ∧ sz2 = 1 ∧ len = 0 then some (.int .i64 0, h)
   else none
  | _, _, _ => none
 | _, _ => none
def opBuiltin (p : Nat × Nat) (b : Builtin) (ts : List TypeId) (vs : List AV) (h : Heap) : Option (AV × Heap) :=
 match b with
 | .len => opLen X ts vs h
 | .append => opAppend X p.2 ts vs h
 | .min => opMin vs h
 | .max => opMax vs h
 | .copy => opCopy X ts vs h
 | _ => none
def opCallee (p : Nat × Nat) (c : Callee) (ts : List TypeId) (vs : List AV) (h : Heap) : Option (AV × Heap) :=
 match c with
 | .builtin b => opBuiltin X p b ts vs h
 | _ => none
def opFunc (f : Fn) (fst cap : List AV) (h : Heap) : Option (AV × Heap) :=
 match f with
 | .func f => some (.clo f fst cap, h)
 | _ => none
noncomputable def stepOp (p : Nat × Nat) (o : Op) (fr : Frm) (h : Heap) : Option (AV × Heap) :=
 match o with
 | .move x => some (evo fr x, h)
 | .assign x => some (evo fr x, h)
 | .pick c a b => opPick (evo fr c) (evo fr a) (evo fr b) h
 | .alloc t => opAlloc X p.1 t h
 | .box _ x => opBox p.1 (evo fr x) h
 | .build t parts => (buildAV X t fr parts.toList).map (·, h)
 | .buildSlice t len parts => opBuildSlice X t len fr parts.toList h
 | .load t a => opLoad X t (evo fr a) h
 | .store t a x => opStore X p.1 t (evo fr a) (evo fr x) h
 | .nilCheck x => opNil (evo fr x) h
 | .binOp o xt x y _ => (binAV X o xt (evo fr x) (evo fr y)).map (·, h)
 | .unOp o _ x => (unAV o (evo fr x)).map (·, h)
 | .convert s t x => opConvert X s t (evo fr x) h
 | .makeFunc f fst cap => opFunc f (evoL fr fst.toList) (evoL fr cap.toList) h
 | .makeMap _ r => match r with | none => some (.mapr p.1, hput h p.1 (.map [])) | some _ => none
 | .slice t x lo hi mx => match mx with | none => (sliceAV X t (evo fr x) fr lo hi).map (·, h) | some _ => none
 | .fieldAddr t x f => opFieldAddr X t (evo fr x) f h
 | .field t x f => opField X t (evo fr x) f h
 | .indexAddr t x i => (idxAV X t (evo fr x) (evo fr i)).map (·, h)
 | .index t x i => opIndex X t (evo fr x) (evo fr i) h
 | .lookup t m k ok => opLookup X t (evo fr m) (evo fr k) ok h
 | .mapUpdate t m k v => opMapUpdate X t (evo fr m) (evo fr k) (evo fr v) h
 | .mapEntry t m k => opMapEntry X t (evo fr m) (evo fr k) h
 | .entryStore _ m s v => opEntryStore (evo fr m) (evo fr s) (evo fr v) h
 | .range t x => opRange X p.1 t (evo fr x) h
 | .next it s => if s then opNext (evo fr it) h else none
 | .entry it => opEntry (evo fr it) h
 | .extract t ix => opExtract (evo fr t) ix h
 | .makeSlice t l c => opMakeSlice X p.1 t (evo fr l) (evo fr c) h
 | .call c => opCallee X p c.callee c.argTypes.toList (evoL fr c.args.toList) h
 | _ => none
noncomputable def forceNat {β : Type} (n : Nat) (k : Nat → β) : β := Nat.rec (k 0) (fun m _ => k (m + 1)) n
noncomputable def forceInt {β : Type} (n : Int) (k : Int → β) : β :=
 match n with
 | .ofNat m => forceNat m fun m => k (.ofNat m)
 | .negSucc m => forceNat m fun m => k (.negSucc m)
def forceBool {β : Type} (b : Bool) (k : Bool → β) : β := match b with | true => k true | false => k false
noncomputable def forceSp {α β : Type} (xs : List α) : (List α → β) → β :=
 List.rec (fun k => k []) (fun x _ ih k => ih fun xs => k (x :: xs)) xs
noncomputable def forceV {β : Type} (v : AV) (k : AV → β) : β :=
 match v with
 | .int q n => forceInt n fun n => k (.int q n)
 | .bool b => forceBool b fun b => k (.bool b)
 | .lst t z xs => forceNat t fun t => forceNat z fun z => forceSp xs fun xs => k (.lst t z xs)
 | .bsl b o l z => forceNat b fun b => forceNat o fun o => forceNat l fun l => forceNat z fun z => k (.bsl b o l z)
 | .ref b o => forceNat b fun b => forceNat o fun o => k (.ref b o)
 | .eptr c => forceSp c fun c => k (.eptr c)
 | .clo f x c => forceNat f fun f => forceSp x fun x => forceSp c fun c => k (.clo f x c)
 | .yld l => forceNat l fun l => k (.yld l)
 | .mapr b => forceNat b fun b => k (.mapr b)
 | .agg c => forceSp c fun c => k (.agg c)
 | .tup c => forceSp c fun c => k (.tup c)
 | v => k v
mutual
noncomputable def forceAV {β : Type} (v : AV) (k : AV → β) : β :=
 match v with
 | .int q n => forceInt n fun n => k (.int q n)
 | .bool b => forceBool b fun b => k (.bool b)
 | .str s => k (.str s)
 | .nilp => k .nilp
 | .nilf => k .nilf
 | .nilm => k .nilm
 | .lst t z xs => forceNat t fun t => forceNat z fun z => forceL xs fun xs => k (.lst t z xs)
 | .bsl b o l z => forceNat b fun b => forceNat o fun o => forceNat l fun l => forceNat z fun z => k (.bsl b o l z)
 | .ref b o => forceNat b fun b => forceNat o fun o => k (.ref b o)
 | .eptr c => forceL c fun c => k (.eptr c)
 | .clo f x c => forceNat f fun f => forceL x fun x => forceL c fun c => k (.clo f x c)
 | .yld l => forceNat l fun l => k (.yld l)
 | .mapr b => forceNat b fun b => k (.mapr b)
 | .agg c => forceL c fun c => k (.agg c)
 | .tup c => forceL c fun c => k (.tup c)
 | .und => k .und
 | .junk => k .junk
noncomputable def forceL {β : Type} (xs : List AV) (k : List AV → β) : β :=
 match xs with
 | [] => k []
 | x :: xs => forceAV x fun x => forceL xs fun xs => k (x :: xs)
end
noncomputable def forceBlk {β : Type} (b : ABlk) (k : ABlk → β) : β :=
 match b with
 | .cells c => forceSp c fun c => k (.cells c)
 | .map es => forceSp es fun es => k (.map es)
 | .siter s p => forceNat p fun p => k (.siter s p)
 | b => k b
noncomputable def forceBlks {β : Type} (h : List ABlk) : (List ABlk → β) → β :=
 List.rec (fun k => k []) (fun b _ ih k => forceBlk b fun b => ih fun h => k (b :: h)) h
noncomputable def forceHeap {β : Type} (h : Heap) (k : Heap → β) : β :=
 forceBlks h.b fun b => forceSp h.t fun t => k ⟨b, t⟩
noncomputable def setDstK {β : Type} (L : List Nat) (fr : Frm) (d : Option Tmp) (v : AV) (k : Frm → β) : β :=
 match d with
 | some t => forceV v fun v => setFK L fr t v k
 | none => k fr
noncomputable def restrK {β : Type} (old new : Slots) : (Slots → β) → β :=
 List.rec (fun k => k []) (fun p _ ih k => forceV (agetOr new p.1 .junk) fun v => ih fun r => k ((p.1, v) :: r)) old
def quietOp : Op → Bool
 | .call _ | .store _ _ _ | .alloc _ | .box _ _ | .makeMap _ _ | .makeSlice _ _ _ | .mapUpdate _ _ _ _ | .mapEntry _ _ _ | .entryStore _ _ _ _ | .next _ _ | .range _ _ | .entry _ => false
 | _ => true
inductive Kind where
 | pure | read | app | call | write
def callKind : Callee → Kind
 | .builtin .append => .app
 | .builtin .copy => .write
 | .builtin .len => .read
 | .value _ => .call
 | _ => .pure
def opKind : Op → Kind
 | .load _ _ => .read
 | .lookup _ _ _ _ => .read
 | .call c => callKind c.callee
 | .alloc _ | .box _ _ | .makeMap _ _ | .makeSlice _ _ _ | .range _ _ | .next _ _ | .store _ _ _ | .mapUpdate _ _ _ _ | .mapEntry _ _ _ | .entryStore _ _ _ _ | .entry _ => .write
 | _ => .pure
def Kind.loud : Kind → Bool
 | .pure => false
 | _ => true
def earlier (b : List Nat) (i j : Nat) : Bool := (b.getD j 0).testBit i
def AExit.jump : AExit → Option Code
 | .normal => none
 | .ret => some .ret
 | .exit id => some (.exit id)
structure Eng where
 code : Nat → Option Nat → Code → St → Option (AExit × St)
 call : Nat → List AV → Heap → Option (AV × Heap)
noncomputable def yieldFr (L : List Nat) (fr : Frm) : List Tmp → List AV → Option Frm
 | [], [] => some fr
 | t :: ts, v :: vs => setFK L fr t v fun fr => yieldFr L fr ts vs
 | _, _ => none
def beginBlk : ABlk → Option ABlk
 | .loop false p false f fr ps a b => some (.loop true p false f fr ps a b)
 | _ => none
def endBlk (e : AExit) : ABlk → Option ABlk
 | .loop _ _ _ f fr ps a b => some (match e with
  | .normal => .loop false .normal false f fr ps a b
  | e => .loop false e true f fr ps a b)
 | _ => none
def turnBlk (h : Heap) (l : Nat) (g : ABlk → Option ABlk) : Option Heap :=
 match h.b[l]? with
 | some x => match g x with
  | some y => some (h.put l y)
  | none => none
 | none => none
def isNormal : AExit → Bool
 | .normal => true
 | _ => false
noncomputable def stepRound (E : Eng) (l : Nat) (args : List AV) (h : Heap) : Option (AV × Heap) :=
 match h.b[l]? with
 | some (.loop _ _ _ f fr ps asg body) =>
  match yieldFr (X.keep f) fr ps args with
  | some fr1 =>
   match E.code f (some l) asg ⟨fr1, h, []⟩ with
   | some (.normal, s1) =>
    match turnBlk s1.h l beginBlk with
    | some h1 => match E.code f (some l) body ⟨s1.fr, h1, s1.ms⟩ with
     | some (e, s2) => match turnBlk s2.h l (endBlk e) with
      | some h2 => some (.bool (isNormal e), h2)
      | none => none
     | none => none
    | none => none
   | _ => none
  | none => none
 | _ => none
def retRef (f : Nat) : Bool :=
 match X.fn.get f with
 | some fn => fn.resultTypes.toList.any (tref X)
 | none => false
def optL : List (Option AV) → Option (List AV)
 | [] => some []
 | x :: xs => match x, optL xs with
  | some y, some ys => some (y :: ys)
  | _, _ => none
def rowAt (sz : Nat) (c : List AV) (off : Nat) : Option AV :=
 if sz = 1 then match c[off]? with
  | some x => if x.one = true then some x else none
  | none => none
 else if off + sz ≤ c.length then some (.agg ((c.drop off).take sz)) else none
def rowsOf (sz : Nat) (c : List AV) : Nat → Nat → Option (List AV)
 | _, 0 => some []
 | off, n + 1 => match rowAt sz c off, rowsOf sz c (off + sz) n with
  | some y, some ys => some (y :: ys)
  | _, _ => none
def frz (h : Heap) : Nat → AV → Option AV
 | 0, _ => none
 | k + 1, v => match v with
  | .bsl b off n sz => if sz = 0 then none else match h.b[b]? with
   | some (.cells c) => match rowsOf sz c off n with
    | some xs => match optL (xs.map (frz h k)) with
     | some ys => some (.lst 0 sz ys)
     | none => none
    | none => none
   | _ => none
  | .lst _ sz xs => match optL (xs.map (frz h k)) with
   | some ys => some (.lst 0 sz ys)
   | none => none
  | .agg xs => match optL (xs.map (frz h k)) with
   | some ys => some (.agg ys)
   | none => none
  | .tup xs => match optL (xs.map (frz h k)) with
   | some ys => some (.tup ys)
   | none => none
  | v => v.clean
def settle (h : Heap) (v : AV) : Option AV :=
 match v.clean with
 | some u => some u
 | none => frz h 6 v
noncomputable def callPure (E : Eng) (f : Nat) (as : List AV) (h : Heap) : Option (AV × Heap) :=
 forceL as fun as => match E.call f as ⟨[], []⟩ with
 | some (v, h1) => match settle h1 v with
  | some u => forceAV u fun u => some (u, h)
  | none => none
 | none => none
def viewV (h : Heap) (v : AV) : Option AV :=
 match v with
 | .ref b off => match h.b[b]? with
  | some (.cells c) => match cleanL (c.drop off) with
   | some d => some (.eptr d)
   | none => none
  | _ => none
 | v => v.clean
def viewL (h : Heap) : List AV → Option (List AV)
 | [] => some []
 | x :: xs => match viewV h x, viewL h xs with
  | some y, some ys => some (y :: ys)
  | _, _ => none
def callOrc (O : List AV → Option AV) (as : List AV) (h : Heap) : Option (AV × Heap) :=
 match viewL h as with
 | some ys => match O ys with
  | some v => match v.clean with
   | some u => some (u, h)
   | none => none
  | none => none
 | none => none
noncomputable def callAV (E : Eng) (mustPure : Bool) (g : AV) (args : List AV) (h : Heap) : Option (AV × Heap) :=
 match g with
 | .clo f fst cap => match X.orc f with
  | some O => if mustPure then none else callOrc O (fst ++ args ++ cap) h
  | none =>
   if retRef X f then (if mustPure then none else E.call f (fst ++ args ++ cap) h)
   else match cleanL (fst ++ args ++ cap) with
    | some as => callPure E f as h
    | none => if mustPure then none else E.call f (fst ++ args ++ cap) h
 | .yld l => if mustPure then none else stepRound X E l args h
 | _ => none
noncomputable def opAt (E : Eng) (mustPure : Bool) (p : Nat × Nat) (o : Op) (fr : Frm) (h : Heap) : Option (AV × Heap) :=
 match o with
 | .call c => match c.callee with
  | .value g => callAV X E mustPure (evo fr g) (evoL fr c.args.toList) h
  | _ => stepOp X p o fr h
 | _ => stepOp X p o fr h
def guardOf (ops : List Oper) (g : Nat × Bool) : Option (Tmp × Bool) :=
 match ops[g.1]? with
 | some o => match o.dst with
  | some t => some (t, g.2)
  | none => none
 | none => none
noncomputable def thenK (L : List Nat) (o : Op) (fr : Frm) (d : Option Tmp) (r : Option (AV × Heap)) (k : Frm → Heap → Option St) : Option St :=
 match r with
 | some (v, h') => setDstK L fr d v fun fr' => match quietOp o with
  | true => k fr' h'
  | false => forceHeap h' fun h' => k fr' h'
 | none => none
noncomputable def oneOp (E : Eng) (L : List Nat) (all : List Oper) (q : Bool) (p : Nat × Nat) (o : Oper) (s : St) (k : St → Option St) : Option St :=
 match o.guard with
 | none => thenK L o.op s.fr o.dst (opAt X E q p o.op s.fr s.h) fun fr' h' => k ⟨fr', h', s.ms⟩
 | some g => match guardOf all g with
  | some (t, want) => match getF s.fr t with
   | .bool c => if c = want then
     setFK L s.fr t (.bool want) fun fr => thenK L o.op fr o.dst (opAt X E q p o.op fr s.h) fun fr' h' => k ⟨fr', h', s.ms⟩
    else setFK L s.fr t (.bool !want) fun fr => setDstK L fr o.dst .und fun fr => k ⟨fr, s.h, s.ms⟩
   | .und => setDstK L s.fr o.dst .und fun fr => k ⟨fr, s.h, s.ms⟩
   | _ => none
  | none => none
noncomputable def runOps (E : Eng) (L : List Nat) (all : List Oper) (os : List Oper) : St → Option St :=
 List.rec (fun s => some s) (fun o _ ih s => oneOp X E L all false (s.h.b.length, s.h.t.length) o s ih) os
def growAV (t : TypeId) (h : Heap) (x y : AV) : Option (AV × Heap) :=
 match trow X t with
 | .slice e =>
  match x, y with
  | .lst 1 _ [], .lst _ sz ys =>
   if 0 < tsz X e ∧ ys.length * tbytes X e ≤ appLimit ∧ ys.length ≤ appLimit ∧ zeroFits X e ∧ ys.all AV.var then
    if ys.length = 0 then some (.lst 1 (tsz X e) [], h)
    else if sz = tsz X e then some (.bsl h.b.length 0 ys.length (tsz X e), hput h h.b.length (.cells (ys.flatMap AV.cells)))
    else none
   else none
  | _, _ => none
 | _ => none
def litAV (t : TypeId) (q : Nat) (h : Heap) (x : AV) (b off n sz : Nat) : Option (AV × Heap) :=
 match trow X t, h.b[b]? with
 | .slice e, some (.cells c) => if sz = 1 ∧ tsz X e = 1 ∧ off + n ≤ c.length ∧ ((c.drop off).take n).all AV.one then appendAV X t q h x (.lst 0 1 ((c.drop off).take n)) else none
 | _, _ => none
def zerosAV (t : TypeId) (q : Nat) (h : Heap) (x : AV) (n : Int) : Option (AV × Heap) :=
 match trow X t with
 | .slice e => match tzero X e with
  | some z => if 0 ≤ n ∧ n ≤ 4096 ∧ tbytes X e ≤ 4096 ∧ tsz X e = 1 ∧ z.one then appendAV X t q h x (.lst 0 1 (List.replicate n.toNat z)) else none
  | none => none
 | _ => none
def growApp (d : Bool) (q : Nat) (ts : List TypeId) (vs : List AV) (h : Heap) : Option (AV × Heap) :=
 match ts, vs with
 | [t, u], [x, y] => if known X u ∧ (tint X u).isNone then
   match y with
   | .bsl b off n sz => litAV X t q h x b off n sz
   | y => match d with
    | true => growAV X t h x y
    | false => appendAV X t q h x y
  else match tint X u, y with
   | some _, .int _ n => zerosAV X t q h x n
   | _, _ => none
 | _, _ => none
def opMake0 (p : Nat × Nat) (t : TypeId) (l c : AV) (h : Heap) : Option (AV × Heap) :=
 match trow X t, l, c with
 | .slice e, .int _ n, .int _ m => if n = 0 ∧ 0 < m ∧ m ≤ 4096 ∧ tbytes X e ≤ 4096 ∧ 0 < tsz X e ∧ tsz X e ≤ 4096 ∧ zeroFits X e then some (.lst (p.2 + 2) (tsz X e) [], ⟨h.b, lset h.t p.2 true⟩) else opMakeSlice X p.1 t l c h
 | _, _, _ => opMakeSlice X p.1 t l c h
noncomputable def opBx (d : Bool) (E : Eng) (p : Nat × Nat) (o : Op) (fr : Frm) (h : Heap) : Option (AV × Heap) :=
 match o with
 | .store t a x => match d with
  | true => opStore X 0 t (evo fr a) (evo fr x) h
  | false => opAt X E false p (.store t a x) fr h
 | .makeSlice t l c => opMake0 X p t (evo fr l) (evo fr c) h
 | .call c => match c.callee with
  | .builtin .append => growApp X d p.2 c.argTypes.toList (evoL fr c.args.toList) h
  | _ => opAt X E false p (.call c) fr h
 | o => opAt X E false p o fr h
noncomputable def oneBx (d : Bool) (E : Eng) (L : List Nat) (all : List Oper) (o : Oper) (s : St) (k : St → Option St) : Option St :=
 match o.guard with
 | none => thenK L o.op s.fr o.dst (opBx X d E (s.h.b.length, s.h.t.length) o.op s.fr s.h) fun fr' h' => k ⟨fr', h', s.ms⟩
 | some _ => oneOp X E L all false (s.h.b.length, s.h.t.length) o s k
noncomputable def runBx (d : Bool) (E : Eng) (L : List Nat) (all : List Oper) (os : List Oper) : St → Option St :=
 List.rec (fun s => some s) (fun o _ ih s => oneBx X d E L all o s ih) os
noncomputable def iceSt (z : Option (Nat × Nat)) (s : St) : Option St :=
 match z with
 | none => some s
 | some (t, o) => match getF s.fr t with
  | .ref bz 0 => match s.h.b[bz]? with
   | some (.cells c) => match c[o]? with
    | some v => match v with
     | .bsl b off n sz => match s.h.b[b]? with
      | some (.cells d) => match rowsOf sz d off n with
       | some xs => if b = bz ∨ sz = 0 then none else some ⟨s.fr, (s.h.put b .none).put bz (.cells (c.set o (.lst 0 sz xs))), s.ms⟩
       | none => none
      | _ => none
     | _ => some s
    | none => none
   | _ => none
  | _ => none
noncomputable def runR (E : Eng) (f : Nat) (rd : Option Nat) (id : Nat) (ops : List Oper) (s : St) : Option St :=
 match rd with
 | some _ => runOps X E (X.keep f) ops ops s
 | none => (iceSt (X.ice f id) s).bind fun s => match X.grow f id with
  | true => runBx X true E (X.keep f) ops ops s
  | false => runOps X E (X.keep f) ops ops s
noncomputable def runN (E : Eng) (f : Nat) (id : Nat) (ops : List Oper) (s : St) : Option St :=
 match isIn wideMark (X.keep f) with
 | true => match X.grow f id with
  | true => runBx X false E (X.keep f) ops ops s
  | false => runOps X E (X.keep f) ops ops s
 | false => runOps X E (X.keep f) ops ops s
def loudAt (ops : List Oper) (i : Nat) : Bool := match ops[i]? with | some o => (opKind o.op).loud | none => false
def boundAll (b : List Nat) (ops : List Oper) (i : Nat) : Bool :=
 (List.range ops.length).all fun j => j == i || !loudAt ops j || earlier b i j || earlier b j i
def rwPair (x y : Op) : Option (Tmp × Tmp) :=
 match x, y with
 | .load _ (.tmp a), .store _ (.tmp b) _ => some (a, b)
 | .store _ (.tmp b) _, .load _ (.tmp a) => some (a, b)
 | _, _ => none
def unwritten (ops : List Oper) (t : Tmp) : Bool := ops.all fun o => o.dst != some t
def pairOk (ops : List Oper) (x y : Op) : Bool :=
 match opKind x, opKind y with
 | .pure, _ | _, .pure | .call, _ | _, .call => true
 | .read, .read | .read, .app | .app, .read => true
 | _, _ => match rwPair x y with
  | some (a, b) => unwritten ops a && unwritten ops b
  | none => false
def pairsOf (ops : List Oper) : List (Nat × Nat) := (List.range ops.length).flatMap fun j => (List.range j).map fun i => (i, j)
def drawOk (ops : Array Oper) : Bool :=
  (ops.toList.zipIdx.all fun (o, i) => o.after.toList.all fun e => !Region.binds .any e || decide (e.on < i)) &&
  (pairsOf ops.toList).all fun (i, j) => earlier (Region.before ops).toList i j ||
    (match ops.toList[i]?, ops.toList[j]? with
     | some x, some y => pairOk ops.toList x.op y.op && Oper.apart ops x y
     | _, _ => true)
def conflicts (b : List Nat) (ops : List Oper) : List (Tmp × Tmp) :=
 (pairsOf ops).filterMap fun (i, j) => if earlier b i j then none else
  match ops[i]?, ops[j]? with
  | some x, some y => rwPair x.op y.op
  | _, _ => none
noncomputable def refsApart (fr : Frm) (p : Tmp × Tmp) : Bool :=
 match getF fr p.1, getF fr p.2 with
 | .ref x _, .ref y _ => x != y
 | _, _ => false
def drawTxt (ops : Array Oper) : Bool :=
  (ops.toList.zipIdx.all fun (o, i) => o.after.toList.all fun e => !Region.binds .any e || decide (e.on < i)) &&
  (pairsOf ops.toList).all fun (i, j) => earlier (Region.before ops).toList i j ||
    (match ops.toList[i]?, ops.toList[j]? with
     | some x, some y => Oper.apart ops x y
     | _, _ => true)
def pairsFine (b : List Nat) (ops : List Oper) : Bool :=
  (pairsOf ops).all fun (i, j) => earlier b i j ||
    (match ops[i]?, ops[j]? with
     | some x, some y => pairOk ops x.op y.op
     | _, _ => true)
noncomputable def drawT (b : List Nat) (ops : List Oper) (fr : Frm) : Bool := pairsFine b ops && (conflicts b ops).all (refsApart fr)
def okOps (n : Nat) (ops : List Oper) : Bool := ops.all fun o => match o.dst with | some d => decide (d < n) | none => true
def okCode (n : Nat) : Code → Bool
 | .region _ ops draw => okOps n ops.toList && (!draw || drawTxt ops)
 | .seq a b => okCode n a && okCode n b
 | .cond _ a b => okCode n a && okCode n b
 | .block _ b => okCode n b
 | .loop b => okCode n b
 | .scope b => okCode n b
 | .rangeFunc _ ps a b => ps.toList.all (fun t => decide (t < n)) && okCode n a && okCode n b
 | _ => true
def posAt (n0 : Nat × Nat) (md : Bool) (i : Nat) : Nat × Nat := if md then n0 else (n0.1 + i, n0.2 + i)
def hushed (ops : List Oper) : Bool := ops.all fun o => match opKind o.op with | .pure | .read | .call => true | _ => false
noncomputable def runDraw (E : Eng) (L : List Nat) (b : List Nat) (all : List Oper) (n0 : Nat × Nat) (md : Bool) (os : List Oper) : Nat → St → Option St :=
 List.rec (fun _ s => some s) (fun o _ ih i s => oneOp X E L all (md || !boundAll b all i) (posAt n0 md i) o s (ih (i + 1))) os
def posL (n0 : Nat × Nat) (S i : Nat) : Nat × Nat := (n0.1 + (S - 1 - i), n0.2 + i)
noncomputable def runL (E : Eng) (L : List Nat) (all : List Oper) (n0 : Nat × Nat) : List (Nat × Bool) → St → Option St
 | [], s => some s
 | (i, c) :: r, s => match all[i]? with
  | some o => oneOp X E L all (!c) (posL n0 all.length i) o s (runL E L all n0 r)
  | none => none
def dropS (s : St) : St := ⟨⟨s.fr.g, []⟩, s.h, s.ms⟩
open Classical in
noncomputable def runFam (E : Eng) (L : List Nat) (all : List Oper) (n0 : Nat × Nat) (s : St) : List (List (Nat × Bool)) → Option St
 | [] => none
 | l :: ls => match ls with
  | [] => (runL X E L all n0 l s).bind fun s1 => some (dropS s1)
  | _ :: _ => (runL X E L all n0 l s).bind fun s1 => (runFam E L all n0 s ls).bind fun d => if dropS s1 = d then some d else none
def layOp : Op → Bool
 | .alloc _ | .box _ _ | .makeMap _ _ | .makeSlice _ _ _ => true
 | _ => false
def loneA (q : Bool) (o : Op) : Bool := match opKind o with | .pure => true | .call => q | _ => false
def statOk (qx qy : Bool) (x y : Op) : Bool := loneA qx x || loneA qy y ||
 match opKind x, opKind y with
 | .read, .read | .read, .app | .app, .read => true
 | _, _ => false
def loudIn (l : List (Nat × Bool)) (i : Nat) : Bool := l.any fun p => p.1 == i && p.2
def confl (b : List Nat) (ops : List Oper) (l : List (Nat × Bool)) (i j : Nat) : Bool :=
 !earlier b i j && !earlier b j i && (i != j) && match ops[i]?, ops[j]? with
 | some x, some y => !statOk (!loudIn l i) (!loudIn l j) x.op y.op && !layOp y.op
 | _, _ => false
def frontB (cf : Nat → Nat → Bool) (i : Nat) (l : List Nat) : Bool := (l.takeWhile (· != i)).all fun k => !cf k i
def covers (b : List Nat) (cf : Nat → Nat → Bool) : Nat → List Nat → List (List Nat) → Bool
 | 0, _, F => !F.isEmpty
 | n + 1, D, F => !F.isEmpty && D.all fun i => D.any (fun j => earlier b j i) || covers b cf n (D.erase i) ((F.filter (frontB cf i)).map (·.erase i))
def involved (cf : Nat → Nat → Bool) (n i : Nat) : Bool := (List.range n).any fun k => cf k i || cf i k
def ordered (b : List Nat) : List Nat → Bool
 | [] => true
 | i :: r => r.all (fun j => !earlier b j i) && ordered b r
def okFam (b : List Nat) (ops : List Oper) (F : List (List (Nat × Bool))) : Bool :=
 match F with
 | [] => false
 | l0 :: _ =>
  let cf := confl b ops l0
  let D := (List.range ops.length).filter (involved cf ops.length)
  (F.all fun l => (l.map (·.1)).isPerm (List.range ops.length) && ordered b (l.map (·.1)) && l.all fun p => p.2 == loudIn l0 p.1) &&
  covers b cf D.length D (F.map fun l => (l.map (·.1)).filter (involved cf ops.length))
noncomputable def condK {β : Type} (c : Operand) (s : St) (k : St → β) : β :=
 match c with
 | .tmp t => adelK s.fr.g t fun g => k ⟨⟨g, s.fr.l⟩, s.h, s.ms⟩
 | _ => k s
noncomputable def enterRange (E : Eng) (f : Nat) (g : AV) (ps : List Tmp) (asg body : Code) (fr : Frm) (h : Heap) (ms : List Nat) : Option (AExit × St) :=
 match g with
 | .clo gf fst cap =>
  match E.call gf (fst ++ [.yld h.b.length] ++ cap) ⟨h.b ++ [.loop false .normal false f fr ps asg body], h.t⟩ with
  | some (_, h2) => match h2.b[h.b.length]? with
   | some (.loop false p _ _ _ _ _ _) => some (p, ⟨fr, h2.put h.b.length .none, ms⟩)
   | _ => none
  | none => none
 | _ => none
def mapLoop : Code → Option (Tmp × Tmp × Tmp × Nat × Code)
 | .seq (.region _ ops draw) (.seq (.cond (.tmp t) .skip (.exit e)) body) =>
  if draw then none else
  match ops.toList with
  | [⟨some d, .next (.tmp it) false, _, _, _, none⟩, ⟨some d2, .extract (.tmp d') 0, _, _, _, none⟩] => if d' = d ∧ d2 = t ∧ d ≠ t ∧ it ≠ d ∧ it ≠ t then some (it, d, t, e, body) else none
  | _ => none
 | _ => none
noncomputable def agree {α : Type} : List (Option α) → Option α
 | [] => none
 | x :: xs => open Classical in if ∀ y ∈ xs, y = x then x else none
def ABlk.underB (n : Nat) : ABlk → Bool
 | .cells c => underL n c
 | .map es => es.all fun e => e.1.under n && e.2.under n
 | .loop _ _ _ _ _ _ _ _ => false
 | .mit b _ _ _ => decide (b < n)
 | _ => true
def tidy (g : Slots) (h : Heap) (ms : List Nat) (s : St) : Prop :=
 (g.all fun p => p.2.under h.b.length) = true ∧ (∀ i x, i < h.b.length → s.h.b[i]? = some x → h.b[i]? = some x ∨ x.underB h.b.length = true) ∧ s.ms = ms
noncomputable def mapRound (E : Eng) (f : Nat) (rd : Option Nat) (c body : Code) (j : Nat) (g : Slots) (h : Heap) (ms : List Nat) (blk : ABlk) : Option (AExit × St) :=
 match E.code f rd body ⟨⟨g, []⟩, h.put j blk, ms⟩ with
 | some (x, s') => restrK g s'.fr.g fun g' => open Classical in if tidy g' h ms s' then match x with
  | .normal => E.code f rd (.loop c) ⟨⟨g', []⟩, ⟨s'.h.b.take h.b.length, s'.h.t⟩, ms⟩
  | x => match s'.h.b[j]? with
   | some (.mit _ _ _ _) => some (x, ⟨⟨g', []⟩, ⟨(s'.h.b.take h.b.length).set j .none, s'.h.t⟩, ms⟩)
   | _ => none
  else none
 | none => none
noncomputable def mapRounds (E : Eng) (f : Nat) (rd : Option Nat) (c : Code) (m : Tmp × Tmp × Tmp × Nat × Code) (s : St) : Option (AExit × St) :=
 match getF s.fr m.1 with
 | .ref j 0 => match s.h.b[j]? with
  | some (.mit b n left _) => match s.h.b[b]? with
   | some (.map es) => if es.length = n ∧ left.Nodup ∧ (∀ i ∈ left, i < n) ∧ b < s.h.b.length then
    match left with
    | [] => some (.exit m.2.2.2.1, ⟨⟨adelK (adelK s.fr.g m.2.1 id) m.2.2.1 id, []⟩, s.h.put j .none, s.ms⟩)
    | left => agree (left.map fun i => mapRound E f rd c m.2.2.2.2 j (adelK (adelK s.fr.g m.2.1 id) m.2.2.1 id) s.h s.ms (.mit b n (left.erase i) (some i)))
    else none
   | _ => none
  | _ => none
 | _ => none
noncomputable def stepCode (E : Eng) (f : Nat) (rd : Option Nat) (c : Code) (s : St) : Option (AExit × St) :=
 match c with
 | .skip => some (.normal, s)
 | .label _ => some (.normal, s)
 | .region id ops draw =>
  if draw then
   if !(X.solo f id).isEmpty then
   if okFam (Region.before ops).toList ops.toList (X.solo f id) then
   match runFam X E (X.keep f) ops.toList (s.h.b.length, s.h.t.length) ⟨s.fr, ⟨s.h.b ++ List.replicate ops.size .none, s.h.t ++ List.replicate ops.size false⟩, s.ms⟩ (X.solo f id) with
   | some d => some (.normal, d)
   | none => none
   else none
   else
   if X.hush f id && hushed ops.toList then
   if drawT (Region.before ops).toList ops.toList s.fr then
   match runDraw X E (X.keep f) (Region.before ops).toList ops.toList (s.h.b.length, s.h.t.length) true ops.toList 0 s with
   | some s' => some (.normal, ⟨⟨s'.fr.g, []⟩, s'.h, s'.ms⟩)
   | none => none
   else none
   else
   if drawT (Region.before ops).toList ops.toList s.fr then
   match runDraw X E (X.keep f) (Region.before ops).toList ops.toList (s.h.b.length, s.h.t.length) false ops.toList 0 ⟨s.fr, ⟨s.h.b ++ List.replicate ops.size .none, s.h.t ++ List.replicate ops.size false⟩, s.ms⟩ with
   | some s' => some (.normal, ⟨⟨s'.fr.g, []⟩, s'.h, s'.ms⟩)
   | none => none
   else none
  else
   match (match isIn deepMark (X.keep f) with | false => runN X E f id ops.toList s | true => runR X E f rd id ops.toList s) with
   | some s' => some (.normal, ⟨⟨s'.fr.g, []⟩, s'.h, s'.ms⟩)
   | none => none
 | .seq a b => match E.code f rd a s with
  | some (.normal, s') => E.code f rd b s'
  | r => r
 | .cond c a b => match evo s.fr c with
  | .bool t => condK c s fun s => if t then E.code f rd a s else E.code f rd b s
  | _ => none
 | .block id b => match E.code f rd b s with
  | some (.exit i, s') => if i = id then some (.normal, s') else some (.exit i, s')
  | r => r
 | .loop b => match mapLoop b with
  | some m => mapRounds E f rd b m s
  | none => match E.code f rd b s with
  | some (.normal, s') => restrK s.fr.g s'.fr.g fun g => E.code f rd (.loop b) ⟨⟨g, []⟩, s'.h, s'.ms⟩
  | r => r
 | .scope b => E.code f rd b s
 | .exit id => some (.exit id, s)
 | .ret => some (.ret, s)
 | .rangeFunc g ps asg body =>
  match rd with
  | none => enterRange E f (evo s.fr g) ps.toList asg body s.fr ⟨s.h.b ++ [.mark], s.h.t⟩ (s.h.b.length :: s.ms)
  | some l => match s.h.b[l]? with
   | some (.loop _ _ _ _ _ _ _ _) => enterRange E f (evo s.fr g) ps.toList asg body s.fr s.h s.ms
   | _ => none
 | _ => none
noncomputable def zipFrom (L : List Nat) : Nat → List AV → Slots
 | _, [] => []
 | i, v :: vs => match isIn i L with
  | true => (i, v) :: zipFrom L (i + 1) vs
  | false => zipFrom L (i + 1) vs
noncomputable def resAV (fr : Frm) (h : Heap) : List ResultVar → Option (List AV)
 | [] => some []
 | .tmp t :: r => (resAV fr h r).map (getF fr t :: ·)
 | .cell a t :: r => match opLoad X t (getF fr a) h, resAV fr h r with
  | some (v, _), some vs => some (v :: vs)
  | _, _ => none
def resOne : List AV → AV
 | [v] => v
 | vs => .tup vs
def unmark (h : Heap) : List Nat → Option Heap
 | [] => some h
 | i :: r => match h.b[i]? with
  | some .mark => unmark (h.put i .none) r
  | _ => none
def leave (n : Nat) (v : AV) (h : Heap) : AV × Heap :=
 if v.under n then (v, ⟨h.b.take n, h.t⟩) else (v, h)
noncomputable def stepCall (E : Eng) (g : Nat) (args : List AV) (h : Heap) : Option (AV × Heap) :=
 match X.fn.get g with
 | none => none
 | some fn => match fn.body with
  | none => none
  | some c =>
   if isIn deepMark (X.keep g) && !h.b.isEmpty then none else
   match E.code g none c ⟨⟨zipFrom (X.keep g) 0 args, []⟩, h, []⟩ with
   | some (e, s) => match e with
    | .exit _ => none
    | _ => match unmark s.h s.ms with
     | some h' => match resAV X s.fr h' fn.results.toList with
      | some vs => some (leave h.b.length (resOne vs) h')
      | none => none
     | none => none
   | none => none
noncomputable def eng (n : Nat) : Eng :=
 Nat.rec ⟨fun _ _ _ _ => none, fun _ _ _ => none⟩ (fun _ E => ⟨stepCode X E, stepCall X E⟩) n
end
section
open Go.RowKit
structure Ctx where
 ok : Nat → Bool
 tk : Nat → Bool
 mu : Nat → Nat
 lv : Nat → Bool
 tau : Nat → Option Nat
 fr : Nat → Nat
 top : Nat → Nat
 K : Nat → Nat → Option Value
 kp : Nat → List Nat
 fl : Nat → Bool
 bs : Nat
def FI (L : List Nat) (fr : Frm) : Prop := (∀ t, isIn t L = true → ∀ d, agetOr fr.l t d = d) ∧ (∀ t, isIn t L = false → ∀ d, agetOr fr.g t d = d)
def Low (C : Ctx) (n : Nat) (a : Option Addr) : Prop := 0 < n → ∀ blk off, a = some ⟨blk, off, none⟩ → C.bs ≤ blk
def TagOk (C : Ctx) (t sz n : Nat) (a : Option Addr) (cap : Nat) : Prop :=
 match t with
 | 0 => True
 | 1 => n = cap ∧ Low C n a
 | k + 2 => C.tk k = true ∧ Low C n a ∧ (C.lv k = true → match C.tau k with
  | none => n = cap ∧ n = 0
  | some blk => ∃ off, a = some ⟨blk, off, none⟩ ∧ off + n * sz = C.fr k ∧ off + cap * sz ≤ C.top k)
def RowAt (C : Ctx) (sz n : Nat) (a : Option Addr) (vs : Nat → Value) : Prop :=
 0 < n → ∃ blk off, a = some ⟨blk, off, none⟩ ∧ ∀ i, i < n → ∀ j, j < sz → C.K blk (off + i * sz + j) = (vs i).cells[j]?
inductive Rv (C : Ctx) : AV → Value → Prop
 | int (k n) : Rv C (.int k n) (.int k n)
 | bool (b) : Rv C (.bool b) (.bool b)
 | str (s) : Rv C (.str s) (.string s)
 | nilp : Rv C .nilp (.pointer none)
 | nilf : Rv C .nilf .nilFunc
 | nilm : Rv C .nilm (.map none)
 | lst (t sz xs a cap) (vs : Nat → Value) (hc : xs.length ≤ cap) (ht : TagOk C t sz xs.length a cap)
  (hx : ∀ i x, xs[i]? = some x → Rv C x (vs i)) (hs : ∀ i, i < xs.length → (vs i).cells.size = sz) (hr : RowAt C sz xs.length a vs) (hn : sz = 0 → a = none) :
  Rv C (.lst t sz xs) (.slice a xs.length cap)
 | bsl (b off n sz a cap) (hb : C.ok b = true) (hc : n ≤ cap) (ha : 0 < n → a = some ⟨C.mu b, off, none⟩) : Rv C (.bsl b off n sz) (.slice a n cap)
 | ref (b off) (hb : C.ok b = true) : Rv C (.ref b off) (.pointer (some ⟨C.mu b, off, none⟩))
 | eptr (c) (vs : Nat → Value) (blk off) (hx : ∀ i x, c[i]? = some x → Rv C x (vs i)) (hk : ∀ i, i < c.length → C.K blk (off + i) = some (vs i)) :
  Rv C (.eptr c) (.pointer (some ⟨blk, off, none⟩))
 | clo (f fs cs) (vs ws : List Value) (h1 : vs.length = fs.length) (h2 : ws.length = cs.length) (hx : ∀ i x, fs[i]? = some x → Rv C x (vs.getD i undef))
  (hy : ∀ i x, cs[i]? = some x → Rv C x (ws.getD i undef)) : Rv C (.clo f fs cs) (.func (.func f) vs.toArray ws.toArray)
 | yld (l) (hl : C.ok l = true) : Rv C (.yld l) (.func (.yield (C.mu l)) #[] #[])
 | mapr (b) (hb : C.ok b = true) : Rv C (.mapr b) (.map (some (C.mu b)))
 | agg (c) (vs : List Value) (h1 : vs.length = c.length) (hx : ∀ i x, c[i]? = some x → Rv C x (vs.getD i undef)) : Rv C (.agg c) (.agg vs.toArray)
 | tup (c) (vs : List Value) (h1 : vs.length = c.length) (hx : ∀ i x, c[i]? = some x → Rv C x (vs.getD i undef)) : Rv C (.tup c) (.tuple vs.toArray)
 | und : Rv C .und undef
 | junk (v) : Rv C .junk v
def RvL (C : Ctx) (c : List AV) (vs : List Value) : Prop := vs.length = c.length ∧ ∀ i x, c[i]? = some x → Rv C x (vs.getD i undef)
structure Ctx.le (base : Nat) (C C' : Ctx) : Prop where
 ok : ∀ i, C.ok i = true → C'.ok i = true ∧ C'.mu i = C.mu i
 tk : ∀ k, C.tk k = true → C'.tk k = true ∧ (C'.lv k = true → C.lv k = true ∧ C'.tau k = C.tau k ∧ C'.fr k = C.fr k ∧ C'.top k = C.top k)
 K : ∀ b o v, C.K b o = some v → C'.K b o = some v
 Kb : ∀ b o, b < base → C'.K b o = C.K b o
 kp : C'.kp = C.kp
 fl : C'.fl = C.fl
 bs : C'.bs = C.bs
theorem Ctx.le.refl (base : Nat) (C : Ctx) : C.le base C := ⟨fun _ h => ⟨h, rfl⟩, fun _ h => ⟨h, fun h => ⟨h, rfl, rfl, rfl⟩⟩, fun _ _ _ h => h, fun _ _ _ => rfl, rfl, rfl, rfl⟩
theorem Ctx.le.trans {base : Nat} {A B C : Ctx} (h : A.le base B) (k : B.le base C) : A.le base C :=
  ⟨fun i hi => have a := h.ok i hi; have b := k.ok i a.1; ⟨b.1, b.2.trans a.2⟩,
   fun i hi => by
    have a := h.tk i hi
    have b := k.tk i a.1
    refine ⟨b.1, fun hl => ?_⟩
    have b := b.2 hl
    have a := a.2 b.1
    exact ⟨a.1, b.2.1.trans a.2.1, b.2.2.1.trans a.2.2.1, b.2.2.2.trans a.2.2.2⟩,
   fun b o v hv => k.K b o v (h.K b o v hv), fun b o hb => (k.Kb b o hb).trans (h.Kb b o hb), k.kp.trans h.kp, k.fl.trans h.fl, k.bs.trans h.bs⟩
theorem Ctx.le.weak {base base' : Nat} {A B : Ctx} (h : A.le base B) (hb : base' ≤ base) : A.le base' B := ⟨h.ok, h.tk, h.K, fun b o k => h.Kb b o (Nat.lt_of_lt_of_le k hb), h.kp, h.fl, h.bs⟩
theorem TagOk.mono {base : Nat} {C C' : Ctx} (hl : C.le base C') {t sz n : Nat} {a : Option Addr} {cap : Nat} (h : TagOk C t sz n a cap) : TagOk C' t sz n a cap := by
 match t, h with
 | 0, _ => trivial
 | 1, h => exact ⟨h.1, fun hn b o e => by rw [hl.bs]; exact h.2 hn b o e⟩
 | k + 2, ⟨hk, hlow, h⟩ =>
  obtain ⟨h0, h1⟩ := hl.tk k hk
  refine ⟨h0, fun hn b o e => by rw [hl.bs]; exact hlow hn b o e, fun hv => ?_⟩
  obtain ⟨a1, a2, a3, a4⟩ := h1 hv
  have h := h a1
  rw [a2, a3, a4]
  exact h
theorem RowAt.mono {base : Nat} {C C' : Ctx} (hl : C.le base C') {sz n : Nat} {a : Option Addr} {vs : Nat → Value} (hsz : ∀ i, i < n → (vs i).cells.size = sz) (h : RowAt C sz n a vs) : RowAt C' sz n a vs := by
 intro hn
 obtain ⟨blk, off, ha, h⟩ := h hn
 refine ⟨blk, off, ha, fun i hi j hj => ?_⟩
 have := h i hi j hj
 have hj' : j < (vs i).cells.size := by rw [hsz i hi]; exact hj
 rw [Array.getElem?_eq_getElem hj'] at this ⊢
 exact hl.K _ _ _ this
theorem Rv.mono {base : Nat} {C C' : Ctx} (hl : C.le base C') {x : AV} {v : Value} (h : Rv C x v) : Rv C' x v := by
 induction h with
 | int k n => exact .int k n
 | bool b => exact .bool b
 | str s => exact .str s
 | nilp => exact .nilp
 | nilf => exact .nilf
 | nilm => exact .nilm
 | lst t sz xs a cap vs hc ht hx hs hr hn ih => exact .lst t sz xs a cap vs hc (ht.mono hl) ih hs (hr.mono hl hs) hn
 | bsl b off n sz a cap hb hc ha => exact .bsl b off n sz a cap (hl.ok b hb).1 hc (by rw [(hl.ok b hb).2]; exact ha)
 | ref b off hb => rw [← (hl.ok b hb).2]; exact .ref b off (hl.ok b hb).1
 | eptr c vs blk off hx hk ih => exact .eptr c vs blk off ih (fun i hi => hl.K _ _ _ (hk i hi))
 | clo f fs cs vs ws h1 h2 hx hy ih1 ih2 => exact .clo f fs cs vs ws h1 h2 ih1 ih2
 | yld l hb => rw [← (hl.ok l hb).2]; exact .yld l (hl.ok l hb).1
 | mapr b hb => rw [← (hl.ok b hb).2]; exact .mapr b (hl.ok b hb).1
 | agg c vs h1 hx ih => exact .agg c vs h1 ih
 | tup c vs h1 hx ih => exact .tup c vs h1 ih
 | und => exact .und
 | junk v => exact .junk v
theorem RvL.mono {base : Nat} {C C' : Ctx} (hl : C.le base C') {c : List AV} {vs : List Value} (h : RvL C c vs) : RvL C' c vs :=
 ⟨h.1, fun i x hx => (h.2 i x hx).mono hl⟩
theorem underL_mem {n : Nat} {xs : List AV} (h : underL n xs = true) : ∀ (i : Nat) (x : AV), xs[i]? = some x → x.under n = true := by
 induction xs with
 | nil => intro i x hx; simp at hx
 | cons y ys ih =>
  simp only [underL, Bool.and_eq_true] at h
  intro i x hx
  cases i with
  | zero => simp at hx; subst hx; exact h.1
  | succ i => simp at hx; exact ih h.2 i x hx
theorem underL_of {n : Nat} {xs : List AV} (h : ∀ x ∈ xs, x.under n = true) : underL n xs = true := by
 induction xs with
 | nil => rfl
 | cons y ys ih => simp only [underL, Bool.and_eq_true]; exact ⟨h y (by simp), ih fun x hx => h x (by simp [hx])⟩
def Ctx.cut (C : Ctx) (n : Nat) : Ctx := { C with ok := fun i => C.ok i && decide (i < n) }
theorem Rv.cut {C : Ctx} {n : Nat} {x : AV} {v : Value} (h : Rv C x v) : x.under n = true → Rv (C.cut n) x v := by
 induction h with
 | int k n => exact fun _ => .int k n
 | bool b => exact fun _ => .bool b
 | str s => exact fun _ => .str s
 | nilp => exact fun _ => .nilp
 | nilf => exact fun _ => .nilf
 | nilm => exact fun _ => .nilm
 | lst t sz xs a cap vs hc ht hx hs hr hn ih =>
  intro hu; simp only [AV.under] at hu
  exact .lst t sz xs a cap vs hc ht (fun i x h => ih i x h (underL_mem hu i x h)) hs hr hn
 | bsl b off n sz a cap hb hc ha => intro hu; simp [AV.under] at hu; exact .bsl b off n sz a cap (by simp [Ctx.cut, hb, hu]) hc ha
 | ref b off hb => intro hu; simp [AV.under] at hu; exact .ref (C := C.cut n) b off (by simp [Ctx.cut, hb, hu])
 | eptr c vs blk off hx hk ih => intro hu; simp only [AV.under] at hu; exact .eptr c vs blk off (fun i x h => ih i x h (underL_mem hu i x h)) hk
 | clo f fs cs vs ws h1 h2 hx hy ih1 ih2 =>
  intro hu; simp only [AV.under, Bool.and_eq_true] at hu
  exact .clo f fs cs vs ws h1 h2 (fun i x h => ih1 i x h (underL_mem hu.1 i x h)) (fun i x h => ih2 i x h (underL_mem hu.2 i x h))
 | yld l hb => intro hu; simp [AV.under] at hu; exact .yld (C := C.cut n) l (by simp [Ctx.cut, hb, hu])
 | mapr b hb => intro hu; simp [AV.under] at hu; exact .mapr (C := C.cut n) b (by simp [Ctx.cut, hb, hu])
 | agg c vs h1 hx ih => intro hu; simp only [AV.under] at hu; exact .agg c vs h1 (fun i x h => ih i x h (underL_mem hu i x h))
 | tup c vs h1 hx ih => intro hu; simp only [AV.under] at hu; exact .tup c vs h1 (fun i x h => ih i x h (underL_mem hu i x h))
 | und => exact fun _ => .und
 | junk v => exact fun _ => .junk v
theorem cleanL_get {xs ys : List AV} (h : cleanL xs = some ys) : ys.length = xs.length ∧ ∀ (i : Nat) (y : AV), ys[i]? = some y → ∃ x : AV, xs[i]? = some x ∧ x.clean = some y := by
 induction xs generalizing ys with
 | nil => simp only [cleanL, Option.some.injEq] at h; subst h; exact ⟨rfl, fun i y hy => by simp at hy⟩
 | cons x xs ih =>
  simp only [cleanL] at h
  split at h
  ·rename_i y zs hy hz
   simp only [Option.some.injEq] at h; subst h
   obtain ⟨hl, hg⟩ := ih hz
   refine ⟨by simp [hl], fun i u hu => ?_⟩
   cases i with
   | zero => simp at hu; subst hu; exact ⟨x, by simp, hy⟩
   | succ i => simp at hu; simpa using hg i u hu
  ·cases h
theorem Rv.clean {C : Ctx} (D : Ctx) (hK : D.K = C.K) {x : AV} {v : Value} (h : Rv C x v) : ∀ y, x.clean = some y → Rv D y v := by
 induction h with
 | int k n => intro y hy; simp only [AV.clean, Option.some.injEq] at hy; subst hy; exact .int k n
 | bool b => intro y hy; simp only [AV.clean, Option.some.injEq] at hy; subst hy; exact .bool b
 | str s => intro y hy; simp only [AV.clean, Option.some.injEq] at hy; subst hy; exact .str s
 | nilp => intro y hy; simp only [AV.clean, Option.some.injEq] at hy; subst hy; exact .nilp
 | nilf => intro y hy; simp only [AV.clean, Option.some.injEq] at hy; subst hy; exact .nilf
 | nilm => intro y hy; simp only [AV.clean, Option.some.injEq] at hy; subst hy; exact .nilm
 | lst t sz xs a cap vs hc ht hx hs hr hn ih =>
  intro y hy; simp only [AV.clean] at hy
  split at hy
  ·rename_i ys h
   simp only [Option.some.injEq] at hy; subst hy
   obtain ⟨hl, hg⟩ := cleanL_get h
   rw [← hl]
   refine .lst 0 sz ys a cap vs (by rw [hl]; exact hc) trivial ?_ (by rw [hl]; exact hs) ?_ hn
   ·intro i y hy
    obtain ⟨x, h1, h2⟩ := hg i y hy
    exact ih i x h1 y h2
   ·rw [hl]; unfold RowAt at hr ⊢; rw [hK]; exact hr
  ·cases hy
 | bsl b off n sz a cap hb hc ha => intro y hy; simp [AV.clean] at hy
 | ref b off hb => intro y hy; simp [AV.clean] at hy
 | eptr c vs blk off hx hk ih => intro y hy; simp [AV.clean] at hy
 | clo f fs cs vs ws h1 h2 hx hy ih1 ih2 =>
  intro y hy
  match fs, cs, hy with
  | [], [], hy =>
   simp only [AV.clean, Option.some.injEq] at hy; subst hy
   exact .clo f [] [] vs ws h1 h2 (fun i x h => by simp at h) (fun i x h => by simp at h)
  | _ :: _, _, hy => simp [AV.clean] at hy
  | [], _ :: _, hy => simp [AV.clean] at hy
 | yld l hb => intro y hy; simp [AV.clean] at hy
 | mapr b hb => intro y hy; simp [AV.clean] at hy
 | agg c vs h1 hx ih =>
  intro y hy; simp only [AV.clean] at hy
  split at hy
  ·rename_i d h
   simp only [Option.some.injEq] at hy; subst hy
   obtain ⟨hl, hg⟩ := cleanL_get h
   exact .agg d vs (by rw [hl]; exact h1) (fun i y hy => by obtain ⟨x, a, b⟩ := hg i y hy; exact ih i x a y b)
  ·cases hy
 | tup c vs h1 hx ih =>
  intro y hy; simp only [AV.clean] at hy
  split at hy
  ·rename_i d h
   simp only [Option.some.injEq] at hy; subst hy
   obtain ⟨hl, hg⟩ := cleanL_get h
   exact .tup d vs (by rw [hl]; exact h1) (fun i y hy => by obtain ⟨x, a, b⟩ := hg i y hy; exact ih i x a y b)
  ·cases hy
 | und => intro y hy; simp [AV.clean] at hy
 | junk v => intro y hy; simp [AV.clean] at hy
theorem Rv.one_cells {C : Ctx} {x : AV} {v : Value} (h : Rv C x v) (ho : x.one = true) : v.cells = #[v] := by
 cases h <;> first | rfl | (simp [AV.one] at ho)
theorem Rv.one_not {C : Ctx} {x : AV} {v : Value} (h : Rv C x v) (ho : x.one = true) : (∀ c, v ≠ .agg c) ∧ (∀ c, v ≠ .tuple c) := by
 cases h <;> first | (refine ⟨fun c e => ?_, fun c e => ?_⟩ <;> (cases e; done)) | (simp [AV.one] at ho; done)
theorem Rv.cells {C : Ctx} {x : AV} {v : Value} (h : Rv C x v) (hv : x.var = true) : RvL C x.cells v.cells.toList := by
 cases h with
 | agg c vs h1 hx => exact ⟨by simpa [Value.cells, AV.cells] using h1, fun i y hy => by simpa [Value.cells] using hx i y hy⟩
 | tup c vs h1 hx => simp [AV.var, AV.one] at hv
 | und => simp [AV.var, AV.one] at hv
 | junk v => simp [AV.var, AV.one] at hv
 | _ => exact ⟨rfl, fun i y hy => by
  cases i with
  | zero => simp [AV.cells] at hy; subst hy; first | exact .int _ _ | exact .bool _ | exact .str _ | exact .nilp | exact .nilf | exact .nilm | exact .lst _ _ _ _ _ _ ‹_› ‹_› ‹_› ‹_› ‹_› ‹_› | exact .bsl _ _ _ _ _ _ ‹_› ‹_› ‹_› | exact .ref _ _ ‹_› | exact .eptr _ _ _ _ ‹_› ‹_› | exact .clo _ _ _ _ _ ‹_› ‹_› ‹_› ‹_› | exact .yld _ ‹_› | exact .mapr _ ‹_›
  | succ i => simp [AV.cells] at hy⟩
def RBlk (C : Ctx) (w : World) (m : Nat) : ABlk → Prop
 | .none => True
 | .cells c => ∃ (vs zs : List Value) (ty : TypeId), w.heap[m]? = some (.cells (vs ++ zs).toArray ty (0, 0)) ∧ RvL C c vs
 | .map es => ∃ (rs : List MapEntry) (clock : Nat), w.heap[m]? = some (.map rs.toArray clock) ∧ (rs.length = es.length ∧ clock = rs.length ∧ ∀ (i : Nat) (e : MapEntry), rs[i]? = some e → e.born = i) ∧
  ∀ (i : Nat) (k v : AV) (e : MapEntry), es[i]? = some (k, v) → rs[i]? = some e → Rv C k e.key ∧ Rv C v e.val ∧ k.var = true
 | .siter s pos => w.heap[m]? = some (.stringIter s pos)
 | .mit b n left cur => ∃ seen : Array Nat, w.heap[m]? = some (.mapIter (some (C.mu b)) n seen n) ∧ C.ok b = true ∧ (∀ i, i ∈ left ↔ i < n ∧ i ∉ seen) ∧ ∀ i, cur = some i → seen.back? = some i ∧ i < n
 | .mark => w.heap[m]? = some (.deferred (some []))
 | .loop busy p done f fr ps asg body => ∃ (L : Loop), w.heap[m]? = some (.loop L) ∧ L.state = (if busy then .busy else if done then .done else .ready) ∧
  L.pending = p.jump ∧ (∀ t, Rv C (getF fr t) (L.tmps.getD t undef)) ∧ L.params.toList = ps ∧ L.assign = asg ∧ L.body = body ∧ FI (C.kp f) fr ∧
  okCode L.tmps.size asg = true ∧ okCode L.tmps.size body = true ∧ ps.all (fun t => decide (t < L.tmps.size)) = true
theorem RBlk.mono {base : Nat} {C C' : Ctx} (hl : C.le base C') {w w' : World} {m : Nat} (hw : w'.heap[m]? = w.heap[m]?) {x : ABlk} (h : RBlk C w m x) : RBlk C' w' m x := by
 cases x with
 | none => trivial
 | cells c => obtain ⟨vs, zs, ty, h1, h2⟩ := h; exact ⟨vs, zs, ty, hw.trans h1, h2.mono hl⟩
 | map es => obtain ⟨rs, clock, h1, h2, h3⟩ := h; exact ⟨rs, clock, hw.trans h1, h2, fun i k v e a b => have ⟨x, y, z⟩ := h3 i k v e a b; ⟨x.mono hl, y.mono hl, z⟩⟩
 | siter s pos => exact hw.trans h
 | mit b n left cur => obtain ⟨seen, h1, h2, h3⟩ := h; exact ⟨seen, by rw [(hl.ok b h2).2]; exact hw.trans h1, (hl.ok b h2).1, h3⟩
 | mark => exact hw.trans h
 | loop busy p done f fr ps asg body => obtain ⟨L, h1, h2, h3, h5, h6, h7, h8, h9, h10⟩ := h; exact ⟨L, hw.trans h1, h2, h3, fun t => (h5 t).mono hl, h6, h7, h8, by rw [hl.kp]; exact h9, h10⟩
def ABlk.under (n : Nat) : ABlk → Prop
 | .cells c => ∀ x ∈ c, x.under n = true
 | .map es => ∀ e ∈ es, e.1.under n = true ∧ e.2.under n = true
 | .loop _ _ _ _ fr _ _ _ => ∀ t, (getF fr t).under n = true
 | .mit b _ _ _ => b < n
 | _ => True
mutual
theorem AV.under_mono {n m : Nat} (hnm : n ≤ m) : ∀ (x : AV), x.under n = true → x.under m = true
 | .lst _ _ xs, h => underL_mono hnm xs h
 | .bsl b _ _ _, h => by simp [AV.under] at h ⊢; omega
 | .ref b _, h => by simp [AV.under] at h ⊢; omega
 | .eptr c, h => underL_mono hnm c h
 | .clo _ f c, h => by
  simp only [AV.under, Bool.and_eq_true] at h ⊢
  exact ⟨underL_mono hnm f h.1, underL_mono hnm c h.2⟩
 | .yld l, h => by simp [AV.under] at h ⊢; omega
 | .mapr b, h => by simp [AV.under] at h ⊢; omega
 | .agg c, h => underL_mono hnm c h
 | .tup c, h => underL_mono hnm c h
 | .int _ _, _ | .bool _, _ | .str _, _ | .nilp, _ | .nilf, _ | .nilm, _ | .und, _ | .junk, _ => rfl
theorem underL_mono {n m : Nat} (hnm : n ≤ m) : ∀ (xs : List AV), underL n xs = true → underL m xs = true
 | [], _ => rfl
 | x :: xs, h => by
  simp only [underL, Bool.and_eq_true] at h ⊢
  exact ⟨AV.under_mono hnm x h.1, underL_mono hnm xs h.2⟩
end
theorem underL_get {n : Nat} {xs : List AV} (h : ∀ (i : Nat) (x : AV), xs[i]? = some x → x.under n = true) : underL n xs = true :=
 underL_of fun x hx => have ⟨i, hi⟩ := List.mem_iff_getElem?.1 hx; h i x hi
theorem Rv.under {C : Ctx} {n : Nat} (hn : ∀ i, C.ok i = true → i < n) {x : AV} {v : Value} (h : Rv C x v) : x.under n = true := by
 induction h with
 | lst t sz xs a cap vs hc ht hx hs hr hn ih => exact underL_get ih
 | bsl b off m sz a cap hb hc ha => simpa [AV.under] using hn b hb
 | ref b off hb => simpa [AV.under] using hn b hb
 | eptr c vs blk off hx hk ih => exact underL_get ih
 | clo f fs cs vs ws h1 h2 hx hy ih1 ih2 => simp only [AV.under, Bool.and_eq_true]; exact ⟨underL_get ih1, underL_get ih2⟩
 | yld l hb => simpa [AV.under] using hn l hb
 | mapr b hb => simpa [AV.under] using hn b hb
 | agg c vs h1 hx ih => exact underL_get ih
 | tup c vs h1 hx ih => exact underL_get ih
 | _ => rfl
theorem ABlk.under_mono {n m : Nat} (hnm : n ≤ m) {x : ABlk} (h : x.under n) : x.under m := by
 cases x with
 | cells c => exact fun y hy => AV.under_mono hnm y (h y hy)
 | map es => exact fun e he => ⟨AV.under_mono hnm _ (h e he).1, AV.under_mono hnm _ (h e he).2⟩
 | loop busy p done f fr ps asg body => exact fun t => AV.under_mono hnm _ (h t)
 | none => trivial
 | siter s pos => trivial
 | mit b k l c => exact Nat.lt_of_lt_of_le h hnm
 | mark => trivial
structure Rel (C : Ctx) (base : Nat) (h : Heap) (w0 w : World) : Prop where
 ok : ∀ i, C.ok i = true → i < h.b.length
 tk : ∀ k, C.tk k = true → k < h.t.length
 lv : ∀ k, C.lv k = true → C.tk k = true
 lt : ∀ k, h.t[k]? = some true → C.lv k = true
 below : Below base w0 w
 size : base ≤ w.heap.size
 box : ∀ i x, h.b[i]? = some x → RBlk C w (C.mu i) x
 has : ∀ i x, h.b[i]? = some x → x ≠ .none → C.ok i = true ∧ base ≤ C.mu i ∧ C.mu i < w.heap.size ∧ ∀ o, C.K (C.mu i) o = none
 und : ∀ (i : Nat) (x : ABlk), h.b[i]? = some x → ∀ f, C.fl f = true → i < f → x.under f
 inj : ∀ i j x y, h.b[i]? = some x → h.b[j]? = some y → x ≠ .none → y ≠ .none → C.mu i = C.mu j → i = j
 known : ∀ b o v, C.K b o = some v → w.cell? ⟨b, o, none⟩ = some v
 tag : ∀ k blk, C.lv k = true → C.tau k = some blk → base ≤ blk ∧ (∃ arr ty, w.heap[blk]? = some (.cells arr ty (0, 0)) ∧ C.top k ≤ arr.size) ∧ (∀ o, C.fr k ≤ o → C.K blk o = none) ∧
  ∀ i x, h.b[i]? = some x → x ≠ .none → C.mu i ≠ blk
 taginj : ∀ j k blk, C.lv j = true → C.lv k = true → C.tau j = some blk → C.tau k = some blk → j = k
 fle : ∀ f, C.fl f = true → f ≤ h.b.length
 bs : C.bs ≤ base
theorem World.lt_of_heap {w : World} {b : Nat} {o : Obj} (h : w.heap[b]? = some o) : b < w.heap.size := (Array.getElem?_eq_some_iff.1 h).1
theorem Rel.known_lt {C : Ctx} {base : Nat} {h : Heap} {w0 w : World} (r : Rel C base h w0 w) {b o : Nat} {v : Value} (hk : C.K b o = some v) : b < w.heap.size :=
 World.block_lt_of_cell? _ (a := ⟨b, o, none⟩) (r.known b o v hk)
theorem Rel.world {C : Ctx} {base : Nat} {h : Heap} {w0 w w' : World} (r : Rel C base h w0 w) (hb : Below w.heap.size w w') : Rel C base h w0 w' where
 ok := r.ok
 tk := r.tk
 lv := r.lv
 lt := r.lt
 below := r.below.trans (hb.mono r.size)
 size := Nat.le_trans r.size hb.size
 box := fun i x hx => by
  by_cases hn : x = .none
  ·subst hn; trivial
  ·exact (r.box i x hx).mono (Ctx.le.refl base C) (hb.block _ (r.has i x hx hn).2.2.1)
 has := fun i x hx hn => have ⟨a, b, c, d⟩ := r.has i x hx hn; ⟨a, b, Nat.lt_of_lt_of_le c hb.size, d⟩
 und := r.und
 inj := r.inj
 known := fun b o v hk => (hb.cell (p := ⟨b, o, none⟩) (r.known_lt hk)).trans (r.known b o v hk)
 tag := fun k blk a b => by
  obtain ⟨h1, ⟨arr, ty, h2, h3⟩, h4⟩ := r.tag k blk a b
  exact ⟨h1, ⟨arr, ty, (hb.block _ (World.lt_of_heap h2)).trans h2, h3⟩, h4⟩
 taginj := r.taginj
 fle := r.fle
 bs := r.bs
def Ctx.learn (C : Ctx) (blk : Nat) (f : Nat → Option Value) : Ctx := { C with K := fun b o => if b = blk then f o else C.K b o }
theorem Ctx.le_learn {base : Nat} (C : Ctx) (blk : Nat) (f : Nat → Option Value) (hb : base ≤ blk) (hf : ∀ o v, C.K blk o = some v → f o = some v) : C.le base (C.learn blk f) :=
 ⟨fun _ h => ⟨h, rfl⟩, fun _ h => ⟨h, fun h => ⟨h, rfl, rfl, rfl⟩⟩, fun b o v hv => by
  simp only [Ctx.learn]; split
  ·rename_i e; subst e; exact hf o v hv
  ·exact hv, fun b o h => by simp only [Ctx.learn]; rw [if_neg (by omega)], rfl, rfl, rfl⟩
def Ctx.flr (C : Ctx) (g : Nat → Bool) : Ctx := { C with fl := g }
theorem Rv.flr {C : Ctx} (g : Nat → Bool) {x : AV} {v : Value} (h : Rv C x v) : Rv (C.flr g) x v := by
 induction h with
 | int k n => exact .int k n
 | bool b => exact .bool b
 | str s => exact .str s
 | nilp => exact .nilp
 | nilf => exact .nilf
 | nilm => exact .nilm
 | lst t sz xs a cap vs hc ht hx hs hr hn ih => exact .lst t sz xs a cap vs hc ht ih hs hr hn
 | bsl b off n sz a cap hb hc ha => exact .bsl b off n sz a cap hb hc ha
 | ref b off hb => exact .ref (C := C.flr g) b off hb
 | eptr c vs blk off hx hk ih => exact .eptr c vs blk off ih hk
 | clo f fs cs vs ws h1 h2 hx hy ih1 ih2 => exact .clo f fs cs vs ws h1 h2 ih1 ih2
 | yld l hb => exact .yld (C := C.flr g) l hb
 | mapr b hb => exact .mapr (C := C.flr g) b hb
 | agg c vs h1 hx ih => exact .agg c vs h1 ih
 | tup c vs h1 hx ih => exact .tup c vs h1 ih
 | und => exact .und
 | junk v => exact .junk v
theorem RvL.flr {C : Ctx} (g : Nat → Bool) {c : List AV} {vs : List Value} (h : RvL C c vs) : RvL (C.flr g) c vs := ⟨h.1, fun i x hx => (h.2 i x hx).flr g⟩
theorem RBlk.flr {C : Ctx} (g : Nat → Bool) {w : World} {m : Nat} {x : ABlk} (h : RBlk C w m x) : RBlk (C.flr g) w m x := by
 cases x with
 | none => trivial
 | cells c => obtain ⟨vs, zs, ty, h1, h2⟩ := h; exact ⟨vs, zs, ty, h1, h2.flr g⟩
 | map es => obtain ⟨rs, clock, h1, h2, h3⟩ := h; exact ⟨rs, clock, h1, h2, fun i k v e a b => have ⟨x, y, z⟩ := h3 i k v e a b; ⟨x.flr g, y.flr g, z⟩⟩
 | siter s pos => exact h
 | mit b n left cur => exact h
 | mark => exact h
 | loop busy p done f fr ps asg body => obtain ⟨L, h1, h2, h3, h5, h6, h7, h8, h9, h10⟩ := h; exact ⟨L, h1, h2, h3, fun t => (h5 t).flr g, h6, h7, h8, h9, h10⟩
theorem Rel.flr {C : Ctx} {base : Nat} {h : Heap} {w0 w : World} (r : Rel C base h w0 w) (g : Nat → Bool) (hu : ∀ (i : Nat) (x : ABlk), h.b[i]? = some x → ∀ f, g f = true → i < f → x.under f) (hl : ∀ f, g f = true → f ≤ h.b.length) :
  Rel (C.flr g) base h w0 w :=
 ⟨r.ok, r.tk, r.lv, r.lt, r.below, r.size, fun i x hx => (r.box i x hx).flr g, r.has, hu, r.inj, r.known, r.tag, r.taginj, hl, r.bs⟩
theorem Rel.under_all {C : Ctx} {base : Nat} {h : Heap} {w0 w : World} (r : Rel C base h w0 w) {i : Nat} {x : ABlk} (hx : h.b[i]? = some x) : x.under h.b.length := by
 have hb := r.box i x hx
 cases x with
 | none => trivial
 | cells c =>
  obtain ⟨vs, zs, ty, h1, h2, h3⟩ := hb
  intro y hy
  obtain ⟨j, hj⟩ := List.mem_iff_getElem?.1 hy
  exact (h3 j y hj).under r.ok
 | map es =>
  obtain ⟨rs, clock, h1, h2, h3⟩ := hb
  intro e he
  obtain ⟨j, hj⟩ := List.mem_iff_getElem?.1 he
  obtain ⟨k, v⟩ := e
  have hjl : j < rs.length := by rw [h2.1]; exact (List.getElem?_eq_some_iff.1 hj).1
  obtain ⟨a, b, c⟩ := h3 j k v rs[j] hj (List.getElem?_eq_getElem hjl)
  exact ⟨a.under r.ok, b.under r.ok⟩
 | siter s pos => trivial
 | mit b n left cur => obtain ⟨seen, h1, h2, h3⟩ := hb; exact r.ok b h2
 | mark => trivial
 | loop busy p done f fr ps asg body =>
  obtain ⟨L, h1, h2, h3, h5, h6⟩ := hb
  exact fun t => (h5 t).under r.ok
end
section
open Go.RowKit
theorem lset_length {α : Type} (l : List α) (p : Nat) (x : α) : (lset l p x).length = if p < l.length then l.length else l.length + 1 := by
 unfold lset; split <;> simp
theorem lset_get {α : Type} {l : List α} {p : Nat} (hp : p ≤ l.length) (x : α) (i : Nat) : (lset l p x)[i]? = if i = p then some x else l[i]? := by
 unfold lset
 split
 ·rename_i h
  rw [List.getElem?_set]
  by_cases e : p = i
  ·subst e; simp [h]
  ·have e' : ¬ i = p := fun h => e h.symm
   simp [e, e']
 ·rename_i h
  have hp' : p = l.length := by omega
  subst hp'
  rw [List.getElem?_append]
  by_cases e : i < l.length
  ·rw [if_pos e, if_neg (by omega)]
  ·rw [if_neg e]
   by_cases e2 : i = l.length
   ·subst e2; simp
   ·rw [if_neg e2]
    have : i - l.length ≠ 0 := by omega
    rw [List.getElem?_eq_none (by simp; omega), List.getElem?_eq_none (by omega)]
def Free (C : Ctx) (h : Heap) (p : Nat) : Prop := C.ok p = false ∧ p ≤ h.b.length
def Ctx.lay (C : Ctx) (p m : Nat) : Ctx := { C with ok := fun i => i == p || C.ok i, mu := fun i => if i = p then m else C.mu i }
theorem Ctx.le_lay {base : Nat} {C : Ctx} {p m : Nat} (hp : C.ok p = false) : C.le base (C.lay p m) where
 ok := fun i hi => by
  refine ⟨by simp [Ctx.lay, hi], ?_⟩
  simp only [Ctx.lay]
  rw [if_neg (fun e => by subst e; rw [hp] at hi; cases hi)]
 tk := fun _ h => ⟨h, fun h => ⟨h, rfl, rfl, rfl⟩⟩
 K := fun _ _ _ h => h
 Kb := fun _ _ _ => rfl
 kp := rfl
 fl := rfl
 bs := rfl
theorem RBlk.none_of {C : Ctx} {w : World} {m : Nat} {x : ABlk} (h : x = .none) : RBlk C w m x := by subst h; trivial
theorem Rel.new {C : Ctx} {base : Nat} {h : Heap} {w0 w : World} (r : Rel C base h w0 w) {p : Nat} (hp : Free C h p) (x : ABlk) (o : Obj)
  (hx : RBlk (C.lay p w.heap.size) (w.alloc o) w.heap.size x) (hu : x.under (p + 1)) :
  Rel (C.lay p w.heap.size) base (hput h p x) w0 (w.alloc o) := by
 have hw : ∀ k, k < w.heap.size → (w.alloc o).heap[k]? = w.heap[k]? := fun k hk => Below.heap_alloc _ _ _ hk
 have hmu : ∀ i, i ≠ p → (C.lay p w.heap.size).mu i = C.mu i := fun i hi => by simp [Ctx.lay, hi]
 have hmp : (C.lay p w.heap.size).mu p = w.heap.size := by simp [Ctx.lay]
 have hnone : ∀ y, h.b[p]? = some y → y = .none := fun y hy => by
  by_cases e : y = .none
  ·exact e
  ·have := (r.has p y hy e).1; rw [hp.1] at this; cases this
 refine ⟨?_, r.tk, r.lv, r.lt, ?_, ?_, ?_, ?_, ?_, ?_, ?_, ?_, r.taginj, fun f hf => by simp only [hput, lset_length]; have := r.fle f hf; split <;> omega, r.bs⟩
 ·intro i hi
  simp only [hput, lset_length]
  simp only [Ctx.lay, Bool.or_eq_true, beq_iff_eq] at hi
  have := hp.2
  rcases hi with hi | hi
  ·subst hi; split <;> omega
  ·have := r.ok i hi; split <;> omega
 ·exact r.below.alloc r.size o
 ·have := r.size; simp; omega
 ·intro i y hy
  simp only [hput, lset_get hp.2] at hy
  split at hy
  ·rename_i e; subst e; cases hy; rw [hmp]; exact hx
  ·rename_i e
   rw [hmu i e]
   by_cases hy0 : y = .none
   ·exact RBlk.none_of hy0
   ·exact (r.box i y hy).mono (Ctx.le_lay (base := base) hp.1) (hw _ (r.has i y hy hy0).2.2.1)
 ·intro i y hy hy0
  simp only [hput, lset_get hp.2] at hy
  split at hy
  ·rename_i e; subst e; rw [hmp]
   refine ⟨by simp [Ctx.lay], r.size, by simp, fun o => ?_⟩
   show C.K _ o = none
   cases hk : C.K w.heap.size o with
   | none => rfl
   | some v => have := r.known_lt hk; omega
  ·rename_i e
   rw [hmu i e]
   obtain ⟨a, b, c, d⟩ := r.has i y hy hy0
   exact ⟨by simp [Ctx.lay, a], b, by simp; omega, d⟩
 ·intro i y hy
  simp only [hput, lset_get hp.2] at hy
  split at hy
  ·rename_i e; subst e; cases hy; exact fun f _ hlt => ABlk.under_mono hlt hu
  ·exact r.und i y hy
 ·intro i j y z hy hz hy0 hz0 hm
  simp only [hput, lset_get hp.2] at hy hz
  split at hy
  ·rename_i e
   split at hz
   ·rename_i e2; omega
   ·rename_i e2
    rw [e, hmp, hmu j e2] at hm
    have := (r.has j z hz hz0).2.2.1; omega
  ·rename_i e
   split at hz
   ·rename_i e2
    rw [e2, hmp, hmu i e] at hm
    have := (r.has i y hy hy0).2.2.1; omega
   ·rename_i e2
    rw [hmu i e, hmu j e2] at hm
    exact r.inj i j y z hy hz hy0 hz0 hm
 ·intro b o' v hk
  have hk : C.K b o' = some v := hk
  exact (World.cell?_alloc_lt _ _ _ (r.known_lt hk)).trans (r.known b o' v hk)
 ·intro k blk hl ht
  obtain ⟨h1, ⟨arr, ty, h2, h3⟩, h4, h5⟩ := r.tag k blk hl ht
  refine ⟨h1, ⟨arr, ty, (hw _ (World.lt_of_heap h2)).trans h2, h3⟩, h4, fun i y hy hy0 => ?_⟩
  simp only [hput, lset_get hp.2] at hy
  split at hy
  ·rename_i e; subst e; rw [hmp]; have := World.lt_of_heap h2; omega
  ·rename_i e; rw [hmu i e]; exact h5 i y hy hy0
theorem Rel.put {C : Ctx} {base : Nat} {h : Heap} {w0 w w' : World} (r : Rel C base h w0 w) {b : Nat} {x : ABlk} (hb : h.b[b]? = some x) (hx0 : x ≠ .none) (y : ABlk)
  (hsz : w'.heap.size = w.heap.size) (hos : w'.os = w.os) (htp : w'.tape = w.tape) (hout : w'.output = w.output)
  (hk : ∀ k, k ≠ C.mu b → w'.heap[k]? = w.heap[k]?) (hy : RBlk C w' (C.mu b) y) (hu : ∀ f, C.fl f = true → b < f → y.under f) : Rel C base (h.put b y) w0 w' := by
 obtain ⟨ok, hbase, hlt, hK⟩ := r.has b x hb hx0
 have hget : ∀ i, (h.put b y).b[i]? = if i = b then some y else h.b[i]? := fun i => by
  simp only [Heap.put, List.getElem?_set]
  by_cases e : b = i
  ·subst e; simp [r.ok b ok]
  ·have e' : ¬ i = b := fun h => e h.symm
   simp [e, e']
 have hcell : ∀ k o, k ≠ C.mu b → w'.cell? ⟨k, o, none⟩ = w.cell? ⟨k, o, none⟩ := fun k o hk' => by simp only [World.cell?]; rw [hk k hk']
 refine ⟨?_, r.tk, r.lv, r.lt, ?_, by rw [hsz]; exact r.size, ?_, ?_, ?_, ?_, ?_, ?_, r.taginj, fun f hf => by simpa [Heap.put] using r.fle f hf, r.bs⟩
 ·intro i hi; simpa [Heap.put] using r.ok i hi
 ·exact r.below.trans ⟨hos, htp, hout, by omega, fun k hk' => hk k (by omega)⟩
 ·intro i z hz
  rw [hget] at hz
  split at hz
  ·rename_i e; subst e; cases hz; exact hy
  ·rename_i e
   by_cases hz0 : z = .none
   ·exact RBlk.none_of hz0
   ·exact (r.box i z hz).mono (Ctx.le.refl base C) (hk _ fun e' => e (r.inj i b z x hz hb hz0 hx0 e'))
 ·intro i z hz hz0
  rw [hget] at hz
  split at hz
  ·rename_i e; subst e; exact ⟨ok, hbase, by omega, hK⟩
  ·obtain ⟨a, b', c, d⟩ := r.has i z hz hz0; exact ⟨a, b', by omega, d⟩
 ·intro i z hz
  rw [hget] at hz
  split at hz
  ·rename_i e; subst e; cases hz; exact hu
  ·exact r.und i z hz
 ·intro i j z z' hz hz' hz0 hz0' hm
  rw [hget] at hz hz'
  have aux : ∀ (i : Nat) (z : ABlk), (if i = b then some y else h.b[i]?) = some z → z ≠ .none → ∃ z', h.b[i]? = some z' ∧ z' ≠ .none := fun i z hz hz0 => by
   split at hz
   ·rename_i e; subst e; exact ⟨x, hb, hx0⟩
   ·exact ⟨z, hz, hz0⟩
  obtain ⟨a, ha, ha0⟩ := aux i z hz hz0
  obtain ⟨c, hc, hc0⟩ := aux j z' hz' hz0'
  exact r.inj i j a c ha hc ha0 hc0 hm
 ·intro k o v hkv
  rw [hcell k o fun e => by rw [e, hK o] at hkv; cases hkv]
  exact r.known k o v hkv
 ·intro k blk hl ht
  obtain ⟨h1, ⟨arr, ty, h2, h3⟩, h4, h5⟩ := r.tag k blk hl ht
  refine ⟨h1, ⟨arr, ty, (hk _ fun e => h5 b x hb hx0 e.symm).trans h2, h3⟩, h4, fun i z hz hz0 => ?_⟩
  rw [hget] at hz
  split at hz
  ·rename_i e; subst e; exact h5 _ x hb hx0
  ·exact h5 i z hz hz0
theorem Rel.free {C : Ctx} {base : Nat} {h : Heap} {w0 w : World} (r : Rel C base h w0 w) (b : Nat) : Rel C base (h.put b .none) w0 w := by
 have hget : ∀ (i : Nat) (z : ABlk), (h.put b .none).b[i]? = some z → z ≠ .none → h.b[i]? = some z := fun i z hz hz0 => by
  simp only [Heap.put, List.getElem?_set] at hz
  split at hz
  ·split at hz
   ·cases hz; exact absurd rfl hz0
   ·cases hz
  ·exact hz
 refine ⟨fun i hi => by simpa [Heap.put] using r.ok i hi, r.tk, r.lv, r.lt, r.below, r.size, ?_, ?_, ?_, ?_, r.known, ?_, r.taginj, fun f hf => by simpa [Heap.put] using r.fle f hf, r.bs⟩
 ·intro i z hz
  by_cases hz0 : z = .none
  ·exact RBlk.none_of hz0
  ·exact r.box i z (hget i z hz hz0)
 ·exact fun i z hz hz0 => r.has i z (hget i z hz hz0) hz0
 ·intro i z hz
  by_cases hz0 : z = .none
  ·subst hz0; exact fun _ _ _ => trivial
  ·exact r.und i z (hget i z hz hz0)
 ·exact fun i j z z' hz hz' h0 h0' hm => r.inj i j z z' (hget i z hz h0) (hget j z' hz' h0') h0 h0' hm
 ·intro k blk hl ht
  obtain ⟨h1, h2, h4, h5⟩ := r.tag k blk hl ht
  exact ⟨h1, h2, h4, fun i z hz hz0 => h5 i z (hget i z hz hz0) hz0⟩
theorem Rel.cut {C : Ctx} {base : Nat} {h : Heap} {w0 w : World} (r : Rel C base h w0 w) (n : Nat) (hn : C.fl n = true) (hm : ∀ f, C.fl f = true → f ≤ n) : Rel (C.cut n) base ⟨h.b.take n, h.t⟩ w0 w := by
 have hget : ∀ (i : Nat) (z : ABlk), (h.b.take n)[i]? = some z → h.b[i]? = some z ∧ i < n := fun i z hz => by
  rw [List.getElem?_take] at hz
  split at hz
  ·exact ⟨hz, by assumption⟩
  ·cases hz
 have hrv : ∀ x v, Rv C x v → x.under n = true → Rv (C.cut n) x v := fun x v hx hu => hx.cut hu
 refine ⟨?_, r.tk, r.lv, r.lt, r.below, r.size, ?_, ?_, ?_, ?_, r.known, ?_, r.taginj, fun f hf => by have := r.fle n hn; have := hm f hf; simp only [List.length_take]; omega, r.bs⟩
 ·intro i hi
  simp only [Ctx.cut, Bool.and_eq_true, decide_eq_true_eq] at hi
  have := r.ok i hi.1
  simp; omega
 ·intro i z hz
  obtain ⟨hz, hi⟩ := hget i z hz
  have hb := r.box i z hz
  have hu := r.und i z hz n hn hi
  have up : ∀ x : AV, x.under n = true → x.under n = true := fun x hx => hx
  cases z with
  | none => trivial
  | cells c =>
   obtain ⟨vs, zs, ty, h1, h2, h3⟩ := hb
   exact ⟨vs, zs, ty, h1, h2, fun j x hx => hrv _ _ (h3 j x hx) (up x (hu x (List.mem_of_getElem? hx)))⟩
  | map es =>
   obtain ⟨rs, clock, h1, h2, h3⟩ := hb
   refine ⟨rs, clock, h1, h2, fun j k v e hj he => ?_⟩
   have := hu (k, v) (List.mem_of_getElem? hj)
   obtain ⟨a, b, c⟩ := h3 j k v e hj he
   exact ⟨hrv _ _ a (up _ this.1), hrv _ _ b (up _ this.2), c⟩
  | siter s pos => exact hb
  | mit b k left cur =>
   obtain ⟨seen, h1, h2, h3⟩ := hb
   have hu : b < n := hu
   exact ⟨seen, h1, by simp [Ctx.cut, h2, hu], h3⟩
  | mark => exact hb
  | loop busy p done f fr ps asg body =>
   obtain ⟨L, h1, h2, h3, h5, h6⟩ := hb
   exact ⟨L, h1, h2, h3, fun t => hrv _ _ (h5 t) (up _ (hu t)), h6⟩
 ·intro i z hz hz0
  obtain ⟨hz, hi⟩ := hget i z hz
  obtain ⟨a, b⟩ := r.has i z hz hz0
  exact ⟨by simp [Ctx.cut, a, hi], b⟩
 ·exact fun i z hz => r.und i z (hget i z hz).1
 ·exact fun i j z z' hz hz' => r.inj i j z z' (hget i z hz).1 (hget j z' hz').1
 ·intro k blk hl ht
  obtain ⟨h1, h2, h4, h5⟩ := r.tag k blk hl ht
  exact ⟨h1, h2, h4, fun i z hz => h5 i z (hget i z hz).1⟩
theorem Rel.cut' {C : Ctx} {base : Nat} {h : Heap} {w0 w : World} (r : Rel C base h w0 w) (n : Nat) (hn : ∀ (i : Nat) (x : ABlk), h.b[i]? = some x → i < n → x.under n) (hnl : n ≤ h.b.length) (hm : ∀ f, C.fl f = true → f ≤ n) : Rel (C.cut n) base ⟨h.b.take n, h.t⟩ w0 w := by
 have hget : ∀ (i : Nat) (z : ABlk), (h.b.take n)[i]? = some z → h.b[i]? = some z ∧ i < n := fun i z hz => by
  rw [List.getElem?_take] at hz
  split at hz
  ·exact ⟨hz, by assumption⟩
  ·cases hz
 have hrv : ∀ x v, Rv C x v → x.under n = true → Rv (C.cut n) x v := fun x v hx hu => hx.cut hu
 refine ⟨?_, r.tk, r.lv, r.lt, r.below, r.size, ?_, ?_, ?_, ?_, r.known, ?_, r.taginj, fun f hf => by have := hm f hf; simp only [List.length_take]; omega, r.bs⟩
 ·intro i hi
  simp only [Ctx.cut, Bool.and_eq_true, decide_eq_true_eq] at hi
  have := r.ok i hi.1
  simp; omega
 ·intro i z hz
  obtain ⟨hz, hi⟩ := hget i z hz
  have hb := r.box i z hz
  have hu := hn i z hz hi
  have up : ∀ x : AV, x.under n = true → x.under n = true := fun x hx => hx
  cases z with
  | none => trivial
  | cells c =>
   obtain ⟨vs, zs, ty, h1, h2, h3⟩ := hb
   exact ⟨vs, zs, ty, h1, h2, fun j x hx => hrv _ _ (h3 j x hx) (up x (hu x (List.mem_of_getElem? hx)))⟩
  | map es =>
   obtain ⟨rs, clock, h1, h2, h3⟩ := hb
   refine ⟨rs, clock, h1, h2, fun j k v e hj he => ?_⟩
   have := hu (k, v) (List.mem_of_getElem? hj)
   obtain ⟨a, b, c⟩ := h3 j k v e hj he
   exact ⟨hrv _ _ a (up _ this.1), hrv _ _ b (up _ this.2), c⟩
  | siter s pos => exact hb
  | mit b k left cur =>
   obtain ⟨seen, h1, h2, h3⟩ := hb
   have hu : b < n := hu
   exact ⟨seen, h1, by simp [Ctx.cut, h2, hu], h3⟩
  | mark => exact hb
  | loop busy p done f fr ps asg body =>
   obtain ⟨L, h1, h2, h3, h5, h6⟩ := hb
   exact ⟨L, h1, h2, h3, fun t => hrv _ _ (h5 t) (up _ (hu t)), h6⟩
 ·intro i z hz hz0
  obtain ⟨hz, hi⟩ := hget i z hz
  obtain ⟨a, b⟩ := r.has i z hz hz0
  exact ⟨by simp [Ctx.cut, a, hi], b⟩
 ·exact fun i z hz => r.und i z (hget i z hz).1
 ·exact fun i j z z' hz hz' => r.inj i j z z' (hget i z hz).1 (hget j z' hz').1
 ·intro k blk hl ht
  obtain ⟨h1, h2, h4, h5⟩ := r.tag k blk hl ht
  exact ⟨h1, h2, h4, fun i z hz => h5 i z (hget i z hz).1⟩
end
section
open Go.RowKit
theorem alt_get {α : Type} : ∀ (l : List α) (i : Nat), (alt true l)[i]? = l[2 * i]? ∧ (alt false l)[i]? = l[2 * i + 1]?
 | [], i => by simp [alt]
 | x :: xs, i => by
  obtain ⟨h1, h2⟩ := alt_get xs i
  refine ⟨?_, by simpa [alt] using h1⟩
  cases i with
  | zero => simp [alt]
  | succ i =>
   have := (alt_get xs i).2
   simp only [alt, List.getElem?_cons_succ, this]
   have e : 2 * (i + 1) = (2 * i + 1) + 1 := by omega
   rw [e, List.getElem?_cons_succ]
theorem alt_length {α : Type} : ∀ (b : Bool) (l : List α), (alt b l).length ≤ l.length
 | true, [] => Nat.le_refl _
 | false, [] => Nat.le_refl _
 | true, _ :: xs => by simp only [alt, List.length_cons]; have := alt_length false xs; omega
 | false, _ :: xs => by simp only [alt, List.length_cons]; have := alt_length true xs; omega
theorem Tr.get_of {α : Type} : ∀ (n : Nat) (l : List α) (i : Nat), l.length ≤ n → (Tr.of n l).get i = l[i]?
 | 0, [], i, _ => by simp [Tr.of, Tr.get]
 | n + 1, [], i, _ => by simp [Tr.of, Tr.get]
 | n + 1, x :: xs, 0, _ => by simp [Tr.of, Tr.get]
 | n + 1, x :: xs, i + 1, h => by
  simp only [List.length_cons] at h
  have e : i = 2 * (i / 2) + i % 2 := by omega
  simp only [Tr.of, Tr.get, List.getElem?_cons_succ]
  have hm : i % 2 = 0 ∨ i % 2 = 1 := by omega
  rcases hm with hm | hm
  ·rw [hm]
   show (Tr.of n (alt true xs)).get (i / 2) = _
   rw [Tr.get_of n _ _ (Nat.le_trans (alt_length _ _) (by omega)), (alt_get xs _).1]
   have e2 : 2 * (i / 2) = i := by omega
   rw [e2]
  ·rw [hm]
   show (Tr.of n (alt false xs)).get (i / 2) = _
   rw [Tr.get_of n _ _ (Nat.le_trans (alt_length _ _) (by omega)), (alt_get xs _).2]
   have e2 : 2 * (i / 2) + 1 = i := by omega
   rw [e2]
theorem tisOf_get (P : Program) : ∀ (l : List TypeInfo) (k i : Nat), (tisOf P k l)[i]? = (l[i]?).map (tiOf P (k + i))
 | [], k, i => by simp [tisOf]
 | x :: xs, k, 0 => by simp [tisOf]
 | x :: xs, k, i + 1 => by
  simp only [tisOf, List.getElem?_cons_succ, tisOf_get P xs (k + 1) i]
  have e : k + 1 + i = k + (i + 1) := by omega
  rw [e]
def Ctx.viewOf (kp : Nat → List Nat) (w : World) : Ctx := { ok := fun _ => false, tk := fun _ => false, mu := fun _ => 0, lv := fun _ => false, tau := fun _ => none, fr := fun _ => 0, top := fun _ => 0, K := fun b o => w.cell? ⟨b, o, none⟩, kp := kp, fl := fun _ => false, bs := w.heap.size }
def Ctx.newer (n : Nat) (w : World) : Ctx := { ok := fun _ => false, tk := fun _ => false, mu := fun _ => 0, lv := fun _ => false, tau := fun _ => none, fr := fun _ => 0, top := fun _ => 0, K := fun b o => if b < n then none else w.cell? ⟨b, o, none⟩, kp := fun _ => [], fl := fun _ => false, bs := 0 }
def OrcOk (P : Program) (X : Tab) : Prop :=
 ∀ (f : Nat) (g : List AV → Option AV), X.orc f = some g → (∃ fn c, P.funcs[f]? = some fn ∧ fn.body = some c) ∧ ∀ (ys : List AV) (v : AV) (w : World) (us : List Value) (n : Nat), g ys = some v → RvL (Ctx.viewOf X.keep w) ys us →
  CallsIn Fence.wide n P f us.toArray w fun e w' => ∃ u, e = .returned u ∧ Below w.heap.size w w' ∧ Rv (Ctx.newer w.heap.size w') v u
structure Fits (P : Program) (X : Tab) : Prop where
 fn : ∀ g, X.fn.get g = P.funcs[g]?
 ty : ∀ (t : TypeId) (i : TI), X.ty.get t = some i → ∃ j, P.info? t = some j ∧ i = tiOf P t j
 mixed : P.follows .mixedOrders = true
 plain : ∀ (g : Nat) (f : Func), P.funcs[g]? = some f → f.body.isSome = true → f.name ≠ "runtime.NumGoroutine"
 wf : ∀ (g : Nat) (f : Func) (c : Code), P.funcs[g]? = some f → f.body = some c → okCode f.ntmps c = true
 orc : OrcOk P X
theorem fits_of (P : Program) (keep : Nat → List Nat) (hush : Nat → Nat → Bool) (solo : Nat → Nat → List (List (Nat × Bool))) (grow : Nat → Nat → Bool) (ice : Nat → Nat → Option (Nat × Nat)) (h1 : P.funcs.size ≤ 1000) (h2 : P.types.size ≤ 1000) (h3 : P.follows .mixedOrders = true)
  (h4 : P.funcs.toList.all (fun f => f.body.isNone || (f.name != "runtime.NumGoroutine" && (match f.body with | some c => okCode f.ntmps c | none => true))) = true) : Fits P (Tab.of P keep hush solo grow ice) where
 fn := fun g => by simp only [Tab.of]; rw [Tr.get_of _ _ _ (by simpa using h1)]; simp
 ty := fun t i h => by
  simp only [Tab.of] at h
  have hl : (tisOf P 0 P.types.toList).length = P.types.size := by
   have : ∀ (l : List TypeInfo) k, (tisOf P k l).length = l.length := fun l => by
    induction l with
    | nil => intro k; rfl
    | cons x xs ih => intro k; simp [tisOf, ih]
   rw [this]; simp
  rw [Tr.get_of _ _ _ (by omega), tisOf_get] at h
  cases hj : P.types.toList[t]? with
  | none => rw [hj] at h; cases h
  | some j =>
   rw [hj] at h
   have hlt : t < P.types.size := by
    have := (List.getElem?_eq_some_iff.1 hj).1; simpa using this
   refine ⟨j, ?_, by simpa using h.symm⟩
   have hj' : P.types[t]? = some j := by simpa using hj
   show (if t < P.types.size then P.types[t]? else _) = some j
   rw [if_pos hlt]; exact hj'
 mixed := h3
 plain := fun g f hf hb => by
  have := List.all_eq_true.1 h4 f (by have := Array.mem_of_getElem? hf; simpa using this)
  simp only [Bool.or_eq_true, Bool.and_eq_true, bne_iff_ne, Option.isNone_iff_eq_none] at this
  rcases this with h | h
  ·rw [h] at hb; cases hb
  ·exact h.1
 wf := fun g f c hf hb => by
  have := List.all_eq_true.1 h4 f (by have := Array.mem_of_getElem? hf; simpa using this)
  simp only [hb] at this
  simpa using And.right (by simpa using this)
 orc := fun f g e => by simp [Tab.of] at e
section
variable {P : Program} {X : Tab} (hX : Fits P X)
include hX
theorem Fits.info {t : TypeId} {i : TI} (h : X.ty.get t = some i) : ∃ j, P.info? t = some j ∧ i = tiOf P t j := hX.ty t i h
theorem Fits.size_pos {t : TypeId} (h : 0 < tsz X t) : ∃ j, P.info? t = some j ∧ j.size = tsz X t ∧ X.ty.get t = some (tiOf P t j) := by
 unfold tsz at h
 cases hg : X.ty.get t with
 | none => rw [hg] at h; simp at h
 | some i =>
  obtain ⟨j, hj, e⟩ := hX.info hg
  refine ⟨j, hj, ?_, by rw [e]⟩
  unfold tsz; rw [hg, e]; rfl
theorem Fits.run_sizeOf {t : TypeId} (h : 0 < tsz X t) (w : World) : (sizeOf t).run P w = .ok (tsz X t) w := by
 obtain ⟨j, hj, e, _⟩ := hX.size_pos h
 simp [sizeOf, typeInfo, hj, e]
theorem Fits.row_slice {t e : TypeId} (h : trow X t = .slice e) : P.underlying t = some (.slice e) := by
 unfold trow at h
 cases hg : X.ty.get t with
 | none => rw [hg] at h; cases h
 | some i =>
  obtain ⟨j, hj, e'⟩ := hX.info hg
  rw [hg, e'] at h
  simp only [tiOf] at h
  split at h <;> first | (cases h; done) | (cases h; assumption)
theorem Fits.row_array {t e : TypeId} {n : Nat} (h : trow X t = .array n e) : P.underlying t = some (.array n e) := by
 unfold trow at h
 cases hg : X.ty.get t with
 | none => rw [hg] at h; cases h
 | some i =>
  obtain ⟨j, hj, e'⟩ := hX.info hg
  rw [hg, e'] at h
  simp only [tiOf] at h
  split at h <;> first | (cases h; done) | (cases h; assumption)
theorem Fits.row_str {t : TypeId} (h : trow X t = .str) : P.underlying t = some .string := by
 unfold trow at h
 cases hg : X.ty.get t with
 | none => rw [hg] at h; cases h
 | some i =>
  obtain ⟨j, hj, e'⟩ := hX.info hg
  rw [hg, e'] at h
  simp only [tiOf] at h
  split at h <;> first | (cases h; done) | assumption
theorem Fits.int {t : TypeId} {k : IntKind} (h : tint X t = some k) : P.underlying t = some (.int k) := by
 unfold tint at h
 cases hg : X.ty.get t with
 | none => rw [hg] at h; cases h
 | some i =>
  obtain ⟨j, hj, e'⟩ := hX.info hg
  rw [hg, e'] at h
  simp only [tiOf, intIn] at h
  split at h <;> first | (cases h; done) | (cases h; assumption)
theorem Fits.bool {t : TypeId} (h : tbool X t = true) : P.underlying t = some .bool := by
 unfold tbool at h
 cases hg : X.ty.get t with
 | none => rw [hg] at h; cases h
 | some i =>
  obtain ⟨j, hj, e'⟩ := hX.info hg
  rw [hg, e'] at h
  simp only [tiOf] at h
  split at h <;> first | (cases h; done) | assumption
theorem Fits.map {t k e : TypeId} (h : tmap X t = some (k, e)) : P.underlying t = some (.map k e) := by
 unfold tmap at h
 cases hg : X.ty.get t with
 | none => rw [hg] at h; cases h
 | some i =>
  obtain ⟨j, hj, e'⟩ := hX.info hg
  rw [hg, e'] at h
  simp only [tiOf] at h
  split at h <;> first | (cases h; done) | (cases h; assumption)
theorem Fits.field {t : TypeId} {f off size : Nat} {ag : Bool} (h : tfield X t f = some (off, size, ag)) :
  ∃ fs fd, P.underlying t = some (.struct fs) ∧ fs[f]? = some fd ∧ fd.offset = off ∧ (if (P.underlying fd.type).isSome then sizeIn P fd.type else 0) = size ∧ aggOf P fd.type = ag := by
 unfold tfield at h
 cases hg : X.ty.get t with
 | none => rw [hg] at h; cases h
 | some i =>
  obtain ⟨j, hj, e'⟩ := hX.info hg
  rw [hg, e'] at h
  simp only [tiOf] at h
  split at h
  ·rename_i fs hfs
   rw [List.getElem?_map] at h
   cases hd : fs.toList[f]? with
   | none => rw [hd] at h; cases h
   | some fd =>
    rw [hd] at h
    simp only [Option.map_some, Option.some.injEq, Prod.mk.injEq] at h
    exact ⟨fs, fd, hfs, by simpa using hd, h.1, h.2.1, h.2.2⟩
  ·simp at h
omit hX in
theorem aggOf_run {t : TypeId} (hk : ∃ d, P.underlying t = some d) (w : World) : (isAgg t).run P w = .ok (aggOf P t) w := by
 obtain ⟨d, hd⟩ := hk
 unfold isAgg aggOf
 simp only [Sem.run_bind, run_underlying hd, Result.andThen_ok, hd]
 cases d <;> rfl
end
end
section
open Go.RowKit
def Lands (P : Program) (C : Ctx) (base : Nat) (h : Heap) (p : Nat × Nat) (w0 : World) (s : Sem Next) (w : World) (v : AV) (h' : Heap) : Prop :=
 ∃ C' w' nx u, s.run P w = .ok nx w' ∧ (nx = .value u ∨ (nx = .skip ∧ u = undef)) ∧ Rv C' v u ∧ C.le base C' ∧ Rel C' base h' w0 w' ∧
  (∀ i, i < h.b.length → i ≠ p.1 → C'.ok i = C.ok i) ∧ (∀ k, k < h.t.length → k ≠ p.2 → C'.tk k = C.tk k)
section
variable {P : Program} {X : Tab} (hX : Fits P X) {C : Ctx} {base : Nat} {h : Heap} {p : Nat × Nat} {w0 w : World}
theorem lands_same (r : Rel C base h w0 w) {s : Sem Next} {u : Value} {v : AV} (hs : s.run P w = .ok (.value u) w) (hv : Rv C v u) : Lands P C base h p w0 s w v h :=
 ⟨C, w, _, u, hs, .inl rfl, hv, Ctx.le.refl base C, r, fun _ _ _ => rfl, fun _ _ _ => rfl⟩
theorem ofCell_rv {v : Value} {x : AV} (h : ofCell v = some x) : Rv C x v := by
 unfold ofCell at h
 split at h <;> first | (cases h; done) | (cases h; first | exact .int _ _ | exact .bool _ | exact .str _ | exact .nilp | exact .nilf | exact .nilm | exact .lst 1 0 [] none 0 (fun _ => undef) (Nat.le_refl _) ⟨rfl, fun hn => by simp at hn⟩ (fun i x hx => by simp at hx) (fun i hi => by simp at hi) (fun hn => by simp at hn) (fun _ => rfl))
theorem ofCells_rv : ∀ {vs : List Value} {xs : List AV}, ofCells vs = some xs → RvL C xs vs
 | [], xs, h => by simp only [ofCells, Option.some.injEq] at h; subst h; exact ⟨rfl, fun i x hx => by simp at hx⟩
 | v :: vs, xs, h => by
  simp only [ofCells] at h
  split at h
  ·rename_i x ys h1 h2
   simp only [Option.some.injEq] at h; subst h
   obtain ⟨a, b⟩ := ofCells_rv (vs := vs) h2
   refine ⟨by simp [a], fun i y hy => ?_⟩
   cases i with
   | zero => simp at hy; subst hy; simpa using ofCell_rv h1
   | succ i => simp at hy; simpa using b i y hy
  ·cases h
theorem ofCell_one {v : Value} {x : AV} (h : ofCell v = some x) : x.one = true := by
 unfold ofCell at h
 split at h <;> first | (cases h; done) | (cases h; rfl)
theorem ofCells_one : ∀ {vs : List Value} {xs : List AV}, ofCells vs = some xs → ∀ x ∈ xs, x.one = true
 | [], xs, h => by simp only [ofCells, Option.some.injEq] at h; subst h; simp
 | v :: vs, xs, h => by
  simp only [ofCells] at h
  split at h
  ·rename_i x ys h1 h2
   simp only [Option.some.injEq] at h; subst h
   intro y hy
   rcases List.mem_cons.1 hy with e | e
   ·subst e; exact ofCell_one h1
   ·exact ofCells_one h2 y e
  ·cases h
theorem ofValue_rv {v : Value} {x : AV} (h : ofValue v = some x) : Rv C x v := by
 unfold ofValue at h
 split at h
 ·rename_i cs
  cases hc : ofCells cs.toList with
  | none => rw [hc] at h; cases h
  | some xs =>
   rw [hc] at h; cases h
   obtain ⟨a, b⟩ := ofCells_rv (C := C) hc
   have := Rv.agg (C := C) xs cs.toList a b
   simpa using this
 ·exact ofCell_rv h
theorem ofValue_var {v : Value} {x : AV} (h : ofValue v = some x) : x.var = true := by
 unfold ofValue at h
 split at h
 ·rename_i cs
  cases hc : ofCells cs.toList with
  | none => rw [hc] at h; cases h
  | some xs => rw [hc] at h; cases h; simp only [AV.var, List.all_eq_true]; exact ofCells_one hc
 ·have := ofCell_one h
  cases x <;> first | exact this | (simp [AV.one] at this)
def RF (C : Ctx) (n : Nat) (fr : Frm) (tmps : Array Value) : Prop := tmps.size = n ∧ ∀ t, Rv C (getF fr t) (tmps.getD t undef)
theorem RF.mono {n : Nat} {fr : Frm} {tmps : Array Value} {C' : Ctx} (hl : C.le base C') (hf : RF C n fr tmps) : RF C' n fr tmps := ⟨hf.1, fun t => (hf.2 t).mono hl⟩
theorem evo_rv {n : Nat} {fr : Frm} {a : Act} (hf : RF C n fr a.tmps) (x : Operand) : Rv C (evo fr x) (a.eval x) := by
 cases x with
 | tmp t => exact hf.2 t
 | const v =>
  simp only [evo, Act.eval]
  cases hv : ofValue v with
  | none => exact .junk v
  | some y => exact ofValue_rv hv
 | global g => exact .junk _
 | func f => exact .clo f [] [] [] [] rfl rfl (fun i x hx => by simp at hx) (fun i x hx => by simp at hx)
theorem evoL_rv {n : Nat} {fr : Frm} {a : Act} (hf : RF C n fr a.tmps) : ∀ (xs : List Operand), RvL C (evoL fr xs) (xs.map a.eval)
 | [] => ⟨rfl, fun i x hx => by simp [evoL] at hx⟩
 | x :: xs => by
  obtain ⟨h1, h2⟩ := evoL_rv hf xs
  refine ⟨by simp [evoL, h1], fun i y hy => ?_⟩
  cases i with
  | zero => simp [evoL] at hy; subst hy; simpa using evo_rv hf x
  | succ i => simp only [evoL, List.getElem?_cons_succ] at hy; simpa using h2 i y hy
theorem Rv.bool_inv {b : Bool} {v : Value} (h : Rv C (.bool b) v) : v = .bool b := by cases h; rfl
theorem Rv.int_inv {k : IntKind} {n : Int} {v : Value} (h : Rv C (.int k n) v) : v = .int k n := by cases h; rfl
theorem Rv.str_inv {s : ByteArray} {v : Value} (h : Rv C (.str s) v) : v = .string s := by cases h; rfl
theorem pickAV_rv {c : Bool} {x y : AV} {u v : Value} (hx : Rv C x u) (hy : Rv C y v) : Rv C (pickAV c x y) (if c then u else v) := by
 unfold pickAV
 split
 ·have := hx.bool_inv; have := hy.bool_inv; subst_vars
  cases c
  ·exact .bool _
  ·exact .bool _
 ·cases c
  ·simpa using hy
  ·simpa using hx
theorem lands_pick (r : Rel C base h w0 w) {c x y : AV} {cv u v : Value} (hc : Rv C c cv) (hx : Rv C x u) (hy : Rv C y v) {z : AV} {h' : Heap} (ho : opPick c x y h = some (z, h')) :
  Lands P C base h p w0 (do pure (.value (if ← asBool cv then u else v))) w z h' := by
 unfold opPick at ho
 split at ho
 ·rename_i t
  simp only [Option.some.injEq, Prod.mk.injEq] at ho
  obtain ⟨rfl, rfl⟩ := ho
  have := hc.bool_inv; subst this
  exact lands_same r (by simp [asBool]) (pickAV_rv hx hy)
 ·cases ho
theorem add_lit (b o n : Nat) : (⟨b, o, none⟩ : Addr).add n = ⟨b, o + n, none⟩ := by unfold Addr.add; split <;> simp_all
def CellsAt (w : World) (m off : Nat) (vs : List Value) : Prop := ∀ i v, vs[i]? = some v → w.cell? ⟨m, off + i, none⟩ = some v
include hX in
theorem run_loadVar {t : TypeId} {c : List AV} {x : AV} {m off : Nat} {vs : List Value} (hl : loadAV X t c = some x) (hc : RvL C c vs) (hm : CellsAt w m off vs) :
  ∃ u, (loadVar t ⟨m, off, none⟩).run P w = .ok u w ∧ Rv C x u := by
 unfold loadAV at hl
 split at hl
 ·rename_i i hi
  obtain ⟨j, hj, rfl⟩ := hX.info hi
  split at hl
  ·rename_i hund
   have hag : (isAgg t).run P w = .ok (tiOf P t j).ag w := aggOf_run (Option.isSome_iff_exists.1 hund) w
   split at hl
   ·rename_i hag'
    split at hl
    ·rename_i hsz
     have hsz : j.size ≤ c.length := hsz
     cases hl
     refine ⟨.agg (vs.take j.size).toArray, ?_, .agg _ _ (by simp only [List.length_take, hc.1]; rfl) fun i y hy => ?_⟩
     ·have hlen : (vs.take j.size).length = j.size := by
       rw [List.length_take, hc.1]; exact Nat.min_eq_left hsz
      have h1 := run_loadCells_list (P := P) w ⟨m, off, none⟩ (vs.take j.size) fun i v hv => by
       rw [add_lit]
       rw [List.getElem?_take] at hv
       split at hv
       ·exact hm i v hv
       ·cases hv
      rw [hlen] at h1
      simp [loadVar, hag, hag', sizeOf, typeInfo, hj, h1]
     ·rw [List.getElem?_take] at hy
      split at hy
      ·rename_i hlt
       have hlt : i < j.size := hlt
       have := hc.2 i y hy
       have hlt' : i < vs.length := by have := (List.getElem?_eq_some_iff.1 hy).1; rw [hc.1]; exact this
       have e : (vs.take j.size).getD i undef = vs.getD i undef := by
        simp only [List.getD_eq_getElem?_getD, List.getElem?_take]
        rw [if_pos hlt]
       rw [e]; exact this
      ·cases hy
    ·cases hl
   ·rename_i hag'
    cases hv : vs[0]? with
    | none =>
     have h0 : vs.length = 0 := by have := List.getElem?_eq_none_iff.1 hv; omega
     have := (List.getElem?_eq_some_iff.1 hl).1
     rw [← hc.1] at this; omega
    | some v =>
     have h1 := hm 0 v hv
     have h2 := hc.2 0 x hl
     refine ⟨v, ?_, by simpa [List.getD_eq_getElem?_getD, hv] using h2⟩
     simp only [Bool.not_eq_true] at hag'
     simp only [Nat.add_zero] at h1
     simp [loadVar, hag, hag', h1]
  ·cases hl
 ·cases hl
end
end
section
open Go.RowKit
section
variable {P : Program} {X : Tab} (hX : Fits P X) {C : Ctx} {base : Nat} {h : Heap} {p : Nat × Nat} {w0 w : World}
theorem RvL.drop {c : List AV} {vs : List Value} (hc : RvL C c vs) (k : Nat) : RvL C (c.drop k) (vs.drop k) :=
 ⟨by simp [hc.1], fun i x hx => by
  rw [List.getElem?_drop] at hx
  have := hc.2 (k + i) x hx
  simpa [List.getD_eq_getElem?_getD, List.getElem?_drop] using this⟩
theorem CellsAt.drop {m off : Nat} {vs : List Value} (hm : CellsAt w m off vs) (k : Nat) : CellsAt w m (off + k) (vs.drop k) := fun i v hv => by
 rw [List.getElem?_drop] at hv
 have := hm (k + i) v hv
 rw [Nat.add_assoc]; exact this
theorem cellsAt_box {m : Nat} {vs zs : List Value} {ty : TypeId} (hh : w.heap[m]? = some (.cells (vs ++ zs).toArray ty (0, 0))) : CellsAt w m 0 vs := fun i v hv => by
 simp only [World.cell?, hh, Nat.zero_add]
 rw [List.getElem?_toArray, List.getElem?_append_left (List.getElem?_eq_some_iff.1 hv).1]; exact hv
theorem eptr_list {c : List AV} {v : Value} (r : Rel C base h w0 w) (hv : Rv C (.eptr c) v) :
  ∃ blk off vs, v = .pointer (some ⟨blk, off, none⟩) ∧ RvL C c vs ∧ CellsAt w blk off vs ∧ ∀ i u, vs[i]? = some u → C.K blk (off + i) = some u := by
 cases hv with
 | eptr _ vs blk off hx hk =>
  have hl : ((List.range c.length).map vs).length = c.length := by simp
  have hg : ∀ (i : Nat) (u : Value), ((List.range c.length).map vs)[i]? = some u → i < c.length ∧ u = vs i := fun i u hu => by
   rw [List.getElem?_map] at hu
   cases hr : (List.range c.length)[i]? with
   | none => rw [hr] at hu; cases hu
   | some j =>
    rw [hr] at hu
    have := List.getElem?_eq_some_iff.1 hr
    obtain ⟨h1, h2⟩ := this
    simp at h1 h2
    subst h2
    exact ⟨h1, by simpa using hu.symm⟩
  refine ⟨blk, off, (List.range c.length).map vs, rfl, ⟨hl, fun i x hi => ?_⟩, fun i u hu => ?_, fun i u hu => ?_⟩
  ·have hlt := (List.getElem?_eq_some_iff.1 hi).1
   have := hx i x hi
   simpa [List.getD_eq_getElem?_getD, List.getElem?_map, List.getElem?_range hlt] using this
  ·obtain ⟨h1, rfl⟩ := hg i u hu
   exact r.known _ _ _ (hk i h1)
  ·obtain ⟨h1, rfl⟩ := hg i u hu
   exact hk i h1
theorem Rel.place_ref (r : Rel C base h w0 w) {b off : Nat} {c : List AV} {v : Value} (hv : Rv C (.ref b off) v) (hb : h.b[b]? = some (.cells c)) :
  ∃ vs zs ty, v = .pointer (some ⟨C.mu b, off, none⟩) ∧ w.heap[C.mu b]? = some (.cells (vs ++ zs).toArray ty (0, 0)) ∧ RvL C c vs := by
 cases hv with
 | ref _ _ _ =>
  obtain ⟨vs, zs, ty, h1, h2⟩ := r.box b _ hb
  exact ⟨vs, zs, ty, rfl, h1, h2⟩
include hX in
theorem lands_load (r : Rel C base h w0 w) {t : TypeId} {a : AV} {av : Value} (ha : Rv C a av) {z : AV} {h' : Heap} (ho : opLoad X t a h = some (z, h')) :
  Lands P C base h p w0 (do pure (.value (← Instr.loadAt t av))) w z h' := by
 unfold opLoad at ho
 split at ho
 ·rename_i b off
  split at ho
  ·rename_i c hb
   cases hl : loadAV X t (c.drop off) with
   | none => rw [hl] at ho; cases ho
   | some y =>
    rw [hl] at ho; cases ho
    obtain ⟨vs, zs, ty, rfl, hh, hc⟩ := r.place_ref ha hb
    obtain ⟨u, hr, hu⟩ := run_loadVar hX hl (hc.drop off) (by simpa using (cellsAt_box hh).drop off)
    exact lands_same r (by simp [Instr.loadAt, Instr.sureAddr, hr]) hu
  ·cases ho
 ·rename_i c
  cases hl : loadAV X t c with
  | none => rw [hl] at ho; cases ho
  | some y =>
   rw [hl] at ho; cases ho
   obtain ⟨blk, off, vs, rfl, hc, hm, _⟩ := eptr_list r ha
   obtain ⟨u, hr, hu⟩ := run_loadVar hX hl hc hm
   exact lands_same r (by simp [Instr.loadAt, Instr.sureAddr, hr]) hu
 ·cases ho
theorem lands_nil {a : AV} {av : Value} (ha : Rv C a av) {z : AV} {h' : Heap} (ho : opNil a h = some (z, h')) :
  h' = h ∧ z = a ∧ ∃ ad, av = .pointer (some ad) := by
 unfold opNil at ho
 split at ho
 ·cases ho; cases ha; exact ⟨rfl, rfl, _, rfl⟩
 ·cases ho; cases ha; exact ⟨rfl, rfl, _, rfl⟩
 ·cases ho
theorem lands_int {k : IntKind} {a b : Int} (r : Rel C base h w0 w) {o : BinOp} {xt : TypeId} {x y : Operand} {z : AV} (hb : intBin o k a b = some z) :
  Lands P C base h p w0 (do pure (.value (← (do eqGuard o xt x y (.int k a) (.int k b); binOp o xt (.int k a) (.int k b))))) w z h := by
 unfold intBin at hb
 split at hb
 ·cases hb; exact lands_same r (by simp [eqGuard, binOp, Op.intArith]) (.int _ _)
 ·cases hb; exact lands_same r (by simp [eqGuard, binOp, Op.intArith]) (.int _ _)
 ·cases hb; exact lands_same r (by simp [eqGuard, binOp, Op.intArith]) (.int _ _)
 ·split at hb
  ·cases hb
  ·rename_i hb0
   cases hb; exact lands_same r (by simp [eqGuard, binOp, Op.intDiv, hb0]) (.int _ _)
 ·split at hb
  ·cases hb
  ·rename_i hb0
   cases hb; exact lands_same r (by simp [eqGuard, binOp, Op.intDiv, hb0]) (.int _ _)
 ·cases hb; exact lands_same r (by simp [eqGuard, binOp, Op.intBits]) (.int _ _)
 ·cases hb; exact lands_same r (by simp [eqGuard, binOp, Op.intBits]) (.int _ _)
 ·cases hc : cmpInt o a b with
  | none => rw [hc] at hb; cases hb
  | some q =>
   rw [hc] at hb; cases hb
   unfold cmpInt at hc
   split at hc <;> first | (cases hc; done) | (cases hc; exact lands_same r (by simp [eqGuard, binOp, Op.intCmp]) (.bool _))
theorem lands_shift {k j : IntKind} {a b : Int} (r : Rel C base h w0 w) {o : BinOp} {xt : TypeId} {x y : Operand} {z : AV} (hb : shiftAV o k a b = some z) :
  Lands P C base h p w0 (do pure (.value (← (do eqGuard o xt x y (.int k a) (.int j b); binOp o xt (.int k a) (.int j b))))) w z h := by
 unfold shiftAV at hb
 split at hb
 ·cases hb
 ·rename_i hb0
  split at hb
  ·cases hb; exact lands_same r (by simp [eqGuard, binOp, Op.shift, hb0]) (.int _ _)
  ·cases hb; exact lands_same r (by simp [eqGuard, binOp, Op.shift, hb0]) (.int _ _)
  ·cases hb
end
end
section
open Go.RowKit
section
variable {P : Program} {X : Tab} (hX : Fits P X) {C : Ctx} {base : Nat} {h : Heap} {p : Nat × Nat} {w0 w : World}
theorem eqCells_one {kd : Nat} {ks : List Nat} {x y : AV} {xs ys : List AV} {b : Bool} (he : eqCells (kd :: ks) (x :: xs) (y :: ys) = some b) :
  ∃ b1 b2, eqCells [kd] [x] [y] = some b1 ∧ eqCells ks xs ys = some b2 ∧ b = (b1 && b2) := by
 unfold eqCells at he
 split at he
 ·rename_i e _ _; cases e
 ·rename_i e1 e2 e3
  cases e1; cases e2; cases e3
  split at he
  ·rename_i hk
   cases h2 : eqCells ks xs ys with
   | none => rw [h2] at he; cases he
   | some r => rw [h2] at he; cases he; exact ⟨_, r, by simp [eqCells, hk], rfl, rfl⟩
  ·cases he
 ·rename_i e1 e2 e3
  cases e1; cases e2; cases e3
  cases h2 : eqCells ks xs ys with
  | none => rw [h2] at he; cases he
  | some r => rw [h2] at he; cases he; exact ⟨_, r, by simp [eqCells], rfl, rfl⟩
 ·rename_i e1 e2 e3
  cases e1; cases e2; cases e3
  cases h2 : eqCells ks xs ys with
  | none => rw [h2] at he; cases he
  | some r => rw [h2] at he; cases he; exact ⟨_, r, by simp [eqCells], rfl, rfl⟩
 ·cases he
theorem eqCells_shape {ks : List Nat} {xs ys : List AV} {b : Bool} (he : eqCells ks xs ys = some b) : xs.length = ks.length ∧ ys.length = ks.length := by
 induction ks generalizing xs ys b with
 | nil =>
  match xs, ys, he with
  | [], [], _ => exact ⟨rfl, rfl⟩
  | [], _ :: _, he => simp [eqCells] at he
  | _ :: _, _, he => simp [eqCells] at he
 | cons kd ks ih =>
  match xs, ys, he with
  | [], [], he => simp [eqCells] at he
  | [], _ :: _, he => simp [eqCells] at he
  | _ :: _, [], he => simp [eqCells] at he
  | x :: xs, y :: ys, he =>
   obtain ⟨b1, b2, _, h2, _⟩ := eqCells_one he
   obtain ⟨h3, h4⟩ := ih h2
   exact ⟨by simp [h3], by simp [h4]⟩
theorem plainKind_some {t : TypeId} {kd : Nat} (hk : plainKind P t = some kd) : ∃ d, P.underlying t = some d ∧ aggOf P t = false := by
 unfold plainKind at hk
 unfold aggOf
 split at hk <;> first | (cases hk; done) | (rename_i hu; exact ⟨_, hu, by rw [hu]⟩)
theorem run_eq1 (d : Nat) {t : TypeId} {kd : Nat} (hk : plainKind P t = some kd) {x y : AV} {u v : Value} {b : Bool} (he : eqCells [kd] [x] [y] = some b) (hx : Rv C x u) (hy : Rv C y v) :
  (Op.equalIn (d + 1) t u v).run P w = .ok b w := by
 unfold plainKind at hk
 split at hk
 ·rename_i k hu
  cases hk
  unfold eqCells at he
  split at he <;> first | (cases he; done) | (rename_i e _ _; cases e; done) | skip
  rename_i e1 e2 e3
  cases e1; cases e2; cases e3
  split at he
  ·rename_i hk2
   subst hk2
   have := hx.int_inv; have := hy.int_inv; subst_vars
   simp [eqCells] at he
   subst he
   exact run_equalIn_int w d t _ _ _ _ hu
  ·cases he
 ·rename_i hu
  cases hk
  unfold eqCells at he
  split at he <;> first | (cases he; done) | (rename_i e _ _; cases e; done) | skip
  rename_i e1 e2 e3
  cases e1; cases e2; cases e3
  have := hx.bool_inv; have := hy.bool_inv; subst_vars
  simp [eqCells] at he
  subst he
  exact run_equalIn_bool w d t _ _ hu
 ·rename_i hu
  cases hk
  unfold eqCells at he
  split at he <;> first | (cases he; done) | (rename_i e _ _; cases e; done) | skip
  rename_i e1 e2 e3
  cases e1; cases e2; cases e3
  have := hx.str_inv; have := hy.str_inv; subst_vars
  simp [eqCells] at he
  subst he
  rw [beq_toListBytes]
  exact run_equalIn_string w d t _ _ hu
 ·cases hk
theorem run_part {t : TypeId} {kd : Nat} (hk : plainKind P t = some kd) (vs : List Value) {i : Nat} {v : Value} (hv : vs[i]? = some v) : (part t vs.toArray i).run P w = .ok v w := by
 obtain ⟨d, hd, ha⟩ := plainKind_some hk
 unfold part
 have := aggOf_run (P := P) ⟨d, hd⟩ w
 rw [ha] at this
 simp [this, hv]
theorem RvL.get {c : List AV} {vs : List Value} (hc : RvL C c vs) {i : Nat} {x : AV} (hx : c[i]? = some x) : ∃ v, vs[i]? = some v ∧ Rv C x v := by
 have hlt : i < vs.length := by rw [hc.1]; exact (List.getElem?_eq_some_iff.1 hx).1
 refine ⟨vs[i], List.getElem?_eq_getElem hlt, ?_⟩
 have := hc.2 i x hx
 simpa [List.getD_eq_getElem?_getD, List.getElem?_eq_getElem hlt] using this
theorem run_eqFields (d : Nat) {xs ys : List AV} {us vs : List Value} (hx : RvL C xs us) (hy : RvL C ys vs) : ∀ (fs : List Field) (i : Nat) (ks : List Nat) (b : Bool), fieldKinds P i fs = some ks →
  eqCells ks (xs.drop i) (ys.drop i) = some b → (Op.eqFields (d + 1) us.toArray vs.toArray fs).run P w = .ok b w
 | [], i, ks, b, hf, he => by
  simp only [fieldKinds, Option.some.injEq] at hf; subst hf
  have := eqCells_shape he
  have h1 : xs.drop i = [] := List.eq_nil_of_length_eq_zero this.1
  have h2 : ys.drop i = [] := List.eq_nil_of_length_eq_zero this.2
  rw [h1, h2] at he
  simp [eqCells] at he
  subst he
  simp [Op.eqFields]
 | f :: fs, i, ks, b, hf, he => by
  simp only [fieldKinds] at hf
  split at hf
  ·rename_i hc
   split at hf
   ·rename_i k ks' hk hks
    simp only [Option.some.injEq] at hf; subst hf
    have hs := eqCells_shape he
    have hix : i < xs.length := by have := hs.1; simp at this; omega
    have hiy : i < ys.length := by have := hs.2; simp at this; omega
    rw [List.drop_eq_getElem_cons hix, List.drop_eq_getElem_cons hiy] at he
    obtain ⟨b1, b2, h1, h2, rfl⟩ := eqCells_one he
    obtain ⟨u, hu, hru⟩ := hx.get (List.getElem?_eq_getElem hix)
    obtain ⟨v, hv, hrv⟩ := hy.get (List.getElem?_eq_getElem hiy)
    have ih := run_eqFields d hx hy fs (i + 1) ks' b2 hks h2
    simp only [Op.eqFields, hc.1, ne_eq, not_false_eq_true, if_true, Sem.run_bind, hc.2.1, run_part hk us hu, run_part hk vs hv, Result.andThen_ok, run_eq1 d hk h1 hru hrv]
    cases b1
    ·simp
    ·simpa using ih
   ·cases hf
  ·cases hf
theorem run_eqItems (d : Nat) {e : TypeId} {kd : Nat} (hk : plainKind P e = some kd) {xs ys : List AV} {us vs : List Value} (hx : RvL C xs us) (hy : RvL C ys vs) : ∀ (n i : Nat) (b : Bool),
  eqCells (List.replicate n kd) (xs.drop i) (ys.drop i) = some b → (Op.eqItems (d + 1) e 1 us.toArray vs.toArray (List.range' i n)).run P w = .ok b w
 | 0, i, b, he => by
  have := eqCells_shape he
  have h1 : xs.drop i = [] := List.eq_nil_of_length_eq_zero this.1
  have h2 : ys.drop i = [] := List.eq_nil_of_length_eq_zero this.2
  rw [h1, h2] at he
  simp [eqCells] at he
  subst he
  simp [Op.eqItems]
 | n + 1, i, b, he => by
  have hs := eqCells_shape he
  have hix : i < xs.length := by have := hs.1; simp at this; omega
  have hiy : i < ys.length := by have := hs.2; simp at this; omega
  rw [List.drop_eq_getElem_cons hix, List.drop_eq_getElem_cons hiy, List.replicate_succ] at he
  obtain ⟨b1, b2, h1, h2, rfl⟩ := eqCells_one he
  obtain ⟨u, hu, hru⟩ := hx.get (List.getElem?_eq_getElem hix)
  obtain ⟨v, hv, hrv⟩ := hy.get (List.getElem?_eq_getElem hiy)
  have ih := run_eqItems d hk hx hy n (i + 1) b2 h2
  simp only [List.range'_succ, Op.eqItems, Sem.run_bind, Nat.mul_one, run_part hk us hu, run_part hk vs hv, Result.andThen_ok, run_eq1 d hk h1 hru hrv]
  cases b1
  ·simp
  ·simpa using ih
include hX in
theorem Fits.eqt {t : TypeId} {ks : List Nat} (ht : teq X t = some ks) : eqIn P t = some ks := by
 unfold teq at ht
 cases hg : X.ty.get t with
 | none => rw [hg] at ht; cases ht
 | some i =>
  obtain ⟨j, hj, e'⟩ := hX.info hg
  rw [hg, e'] at ht
  exact ht
theorem run_equalAgg (d : Nat) {t : TypeId} {ks : List Nat} (ht : eqIn P t = some ks) {xs ys : List AV} {us vs : List Value} (hx : RvL C xs us) (hy : RvL C ys vs) {b : Bool} (he : eqCells ks xs ys = some b) :
  (Op.equalIn (d + 2) t (.agg us.toArray) (.agg vs.toArray)).run P w = .ok b w := by
 unfold eqIn at ht
 split at ht
 ·cases ht
 ·split at ht
  ·rename_i n e hu
   split at ht
   ·rename_i hs
    cases hk : plainKind P e with
    | none => rw [hk] at ht; cases ht
    | some kd =>
     rw [hk] at ht; cases ht
     have hi : ∃ i, P.info? e = some i := by
      unfold sizeIn at hs
      cases hi : P.info? e with
      | none => rw [hi] at hs; simp at hs
      | some i => exact ⟨i, rfl⟩
     obtain ⟨i, hi⟩ := hi
     rw [run_equalIn_array w (d + 1) _ _ hu hi]
     have hc : P.cellsOf e = 1 := hs
     rw [hc, List.range_eq_range']
     exact run_eqItems d hk hx hy n 0 b (by simpa using he)
   ·cases ht
  ·rename_i fs hu
   split at ht
   ·cases ht
   ·rename_i hst
    have hf : P.fieldsOf t = fs := by simp [Program.fieldsOf, hu]
    rw [run_equalIn_struct w (d + 1) t _ _ (by rw [hf]; exact hu) (by simpa using hst), hf]
    exact run_eqFields d hx hy fs.toList 0 ks b ht (by simpa using he)
  ·cases ht
theorem eqIn_guard {t : TypeId} {ks : List Nat} (ht : eqIn P t = some ks) : P.eqGuardType P.depth t = false := by
 unfold eqIn at ht
 split at ht
 ·cases ht
 ·rename_i hg; simpa using hg
theorem run_nil_eq (w : World) {xt e : TypeId} (a : Option Addr) (n c m k : Nat) (hu : P.underlying xt = some (.slice e)) : (Op.equal xt (.slice a n c) (.slice none m k)).run P w = .ok a.isNone w := by
 show (Op.equalIn (9999 + 1) xt (.slice a n c) (.slice none m k)).run P w = _
 rw [Op.equalIn]
 cases a <;> simp [run_underlying hu]
theorem run_nil_eql (w : World) (xt : TypeId) {e : TypeId} (a : Option Addr) (n c m k : Nat) (hu : P.underlying xt = some (.slice e)) : (binOp .eql xt (.slice a n c) (.slice none m k)).run P w = .ok (.bool a.isNone) w := by
 simp only [binOp]
 simp [run_nil_eq w a n c m k hu]
theorem run_nil_neq (w : World) (xt : TypeId) {e : TypeId} (a : Option Addr) (n c m k : Nat) (hu : P.underlying xt = some (.slice e)) : (binOp .neq xt (.slice a n c) (.slice none m k)).run P w = .ok (.bool (!a.isNone)) w := by
 simp only [binOp]
 simp [run_nil_eq w a n c m k hu]
include hX in
theorem lands_bin (r : Rel C base h w0 w) {o : BinOp} {xt : TypeId} {xo yo : Operand} {x y : AV} {u v : Value} (hx : Rv C x u) (hy : Rv C y v) {z : AV} (hb : binAV X o xt x y = some z) :
  Lands P C base h p w0 (do pure (.value (← (do eqGuard o xt xo yo u v; binOp o xt u v)))) w z h := by
 unfold binAV at hb
 split at hb
 ·have := hx.int_inv; have := hy.int_inv; subst_vars
  split at hb
  ·exact lands_shift r hb
  ·split at hb
   ·rename_i hk; subst hk; exact lands_int r hb
   ·cases hb
 ·have := hx.bool_inv; have := hy.bool_inv; subst_vars
  unfold boolBin at hb
  split at hb
  ·rename_i ht
   have hu := hX.bool ht
   split at hb
   ·cases hb; exact lands_same r (by simp [eqGuard, run_eql_bool w xt _ _ hu]) (.bool _)
   ·cases hb; exact lands_same r (by simp [eqGuard, run_neq_bool w xt _ _ hu, bne]) (.bool _)
   ·cases hb
  ·cases hb
 ·have := hx.str_inv; have := hy.str_inv; subst_vars
  unfold strBin at hb
  split at hb
  ·cases hb; exact lands_same r (by simp [eqGuard, binOp, Op.stringOp, beq_toListBytes]) (.bool _)
  ·cases hb; exact lands_same r (by simp [eqGuard, binOp, Op.stringOp, beq_toListBytes, bne]) (.bool _)
  ·cases hb
 ·rename_i a b
  cases hx with
  | agg _ us h1 h2 =>
   cases hy with
   | agg _ vs h3 h4 =>
    unfold aggBin at hb
    split at hb
    ·rename_i ks hks
     have ht := hX.eqt hks
     have hg := eqIn_guard ht
     split at hb
     ·cases he : eqCells ks a b with
      | none => rw [he] at hb; cases hb
      | some q =>
       rw [he] at hb; cases hb
       have hr := run_equalAgg (P := P) (w := w) 9998 ht ⟨h1, h2⟩ ⟨h3, h4⟩ he
       exact lands_same r (by simp [run_eqGuard_agg w _ xt xo yo _ _ hg, binOp, Op.equal, Op.maxDepth, hr]) (.bool _)
     ·cases he : eqCells ks a b with
      | none => rw [he] at hb; cases hb
      | some q =>
       rw [he] at hb; cases hb
       have hr := run_equalAgg (P := P) (w := w) 9998 ht ⟨h1, h2⟩ ⟨h3, h4⟩ he
       exact lands_same r (by simp [run_eqGuard_agg w _ xt xo yo _ _ hg, binOp, Op.equal, Op.maxDepth, hr]) (.bool _)
     ·cases hb
    ·cases hb
 ·rename_i tg z xs
  unfold nilAV at hb
  cases hx with
  | lst _ _ _ a cap vs hc ht hxs hs hr hn =>
   cases hy with
   | lst _ _ _ b cap2 vs2 hc2 ht2 hxs2 hs2 hr2 hn2 =>
    obtain rfl := hn2 rfl
    split at hb
    ·rename_i e hrow
     have hu := hX.row_slice hrow
     split at hb
     ·rename_i hpos
      cases hb
      obtain ⟨blk, off, rfl, _⟩ := hr hpos
      exact lands_same r (by simp [eqGuard, run_nil_eql w xt _ _ _ _ _ hu, run_nil_neq w xt _ _ _ _ _ hu]) (.bool _)
     ·split at hb
      ·rename_i hz
       cases hb
       obtain rfl := hn hz
       exact lands_same r (by simp [eqGuard, run_nil_eql w xt _ _ _ _ _ hu, run_nil_neq w xt _ _ _ _ _ hu]) (.bool _)
      ·cases hb
    ·rename_i e hrow
     have hu := hX.row_slice hrow
     split at hb
     ·rename_i hpos
      cases hb
      obtain ⟨blk, off, rfl, _⟩ := hr hpos
      exact lands_same r (by simp [eqGuard, run_nil_eql w xt _ _ _ _ _ hu, run_nil_neq w xt _ _ _ _ _ hu]) (.bool _)
     ·split at hb
      ·rename_i hz
       cases hb
       obtain rfl := hn hz
       exact lands_same r (by simp [eqGuard, run_nil_eql w xt _ _ _ _ _ hu, run_nil_neq w xt _ _ _ _ _ hu]) (.bool _)
      ·cases hb
    ·cases hb
 ·cases hb
theorem lands_un (r : Rel C base h w0 w) {o : UnOp} {x : AV} {u : Value} (hx : Rv C x u) {z : AV} (hb : unAV o x = some z) :
  Lands P C base h p w0 (do pure (.value (← Op.unary o u))) w z h := by
 unfold unAV at hb
 split at hb
 ·have := hx.int_inv; subst_vars; cases hb; exact lands_same r (by simp [Op.unary, Op.intArith]) (.int _ _)
 ·have := hx.bool_inv; subst_vars; cases hb; exact lands_same r (by simp [Op.unary]) (.bool _)
 ·have := hx.int_inv; subst_vars; cases hb; refine lands_same r (u := .int .i64 _) (by simp [Op.unary, Op.intBits, IntKind.signed, IntKind.bits]; rfl) ?_; rw [BitVec.toNat_xor, BitVec.toNat_ofInt]; exact .int _ _
 ·cases hb
include hX in
theorem lands_convert (r : Rel C base h w0 w) {s t : TypeId} {x : AV} {u : Value} (hx : Rv C x u) {z : AV} {h' : Heap} (ho : opConvert X s t x h = some (z, h')) :
  Lands P C base h p w0 (do pure (.value (← convert s t u))) w z h' := by
 unfold opConvert at ho
 split at ho
 ·have := hx.int_inv; subst_vars
  split at ho
  ·rename_i k hk
   split at ho
   ·rename_i hs
    cases ho
    have hu := hX.int hk
    have hs' : ∃ d, P.underlying s = some d := by
     unfold known at hs
     cases hg : X.ty.get s with
     | none => rw [hg] at hs; cases hs
     | some i =>
      obtain ⟨j, hj, e'⟩ := hX.info hg
      rw [hg, e'] at hs
      exact Option.isSome_iff_exists.1 hs
    obtain ⟨d, hd⟩ := hs'
    refine lands_same r ?_ (.int _ _)
    simp only [convert, Sem.run_bind, run_underlying hd, run_underlying hu, Result.andThen_ok]
    cases d <;> simp [Conv.intToInt]
   ·cases ho
  ·cases ho
 ·cases ho
end
end
section
open Go.RowKit
section
variable {P : Program} {X : Tab} (hX : Fits P X) {C : Ctx} {base : Nat} {h : Heap} {p : Nat × Nat} {w0 w : World}
theorem sizeOf_in {t : TypeId} (hs : 0 < sizeIn P t) (w : World) : (sizeOf t).run P w = .ok (sizeIn P t) w := by
 unfold sizeIn at hs ⊢
 cases hi : P.info? t with
 | none => rw [hi] at hs; simp at hs
 | some i => simp [sizeOf, typeInfo, hi]
theorem Rv.eptr_drop {c : List AV} {blk off : Nat} (k : Nat) (hv : Rv C (.eptr c) (.pointer (some ⟨blk, off, none⟩))) : Rv C (.eptr (c.drop k)) (.pointer (some ⟨blk, off + k, none⟩)) := by
 cases hv with
 | eptr _ vs _ _ hx hk =>
  refine .eptr _ (fun i => vs (k + i)) blk (off + k) (fun i x hi => ?_) (fun i hi => ?_)
  ·rw [List.getElem?_drop] at hi; exact hx _ x hi
  ·rw [Nat.add_assoc]; exact hk _ (by simp at hi; omega)
include hX in
theorem lands_fieldAddr (r : Rel C base h w0 w) {t : TypeId} {x : AV} {f : Nat} {u : Value} (hx : Rv C x u) {z : AV} {h' : Heap} (ho : opFieldAddr X t x f h = some (z, h')) :
  Lands P C base h p w0 (do pure (.value (← Instr.fieldAt t u f))) w z h' := by
 unfold opFieldAddr at ho
 split at ho
 ·rename_i off size ag hf
  obtain ⟨fs, fd, hu, hfd, rfl, hsz0, rfl⟩ := hX.field hf
  split at ho
  ·rename_i hs
   have hs : 0 < sizeIn P fd.type := by
    rw [← hsz0] at hs; split at hs
    ·exact hs
    ·omega
   have hsz := sizeOf_in (P := P) hs w
   have hne : sizeIn P fd.type ≠ 0 := by omega
   split at ho
   ·rename_i b o
    cases ho
    cases hx with
    | ref _ _ hb =>
     refine lands_same r (u := .pointer (some ⟨C.mu b, o + fd.offset, none⟩)) ?_ (.ref _ _ hb)
     simp [Instr.fieldAt, run_underlying hu, hfd, Instr.sureAddr, fieldPlace, hsz, hne, add_lit]
   ·rename_i c
    cases ho
    have hx' := hx
    cases hx with
    | eptr _ vs blk off hx1 hk =>
     refine lands_same r (u := .pointer (some ⟨blk, off + fd.offset, none⟩)) ?_ (hx'.eptr_drop _)
     simp [Instr.fieldAt, run_underlying hu, hfd, Instr.sureAddr, fieldPlace, hsz, hne, add_lit]
   ·cases ho
  ·cases ho
 ·cases ho
theorem RvL.take {c : List AV} {vs : List Value} (hc : RvL C c vs) (k : Nat) : RvL C (c.take k) (vs.take k) :=
 ⟨by simp [hc.1], fun i x hx => by
  rw [List.getElem?_take] at hx
  split at hx
  ·rename_i hlt
   have := hc.2 i x hx
   simpa [List.getD_eq_getElem?_getD, List.getElem?_take, hlt] using this
  ·cases hx⟩
include hX in
theorem lands_field (r : Rel C base h w0 w) {t : TypeId} {x : AV} {f : Nat} {u : Value} (hx : Rv C x u) {z : AV} {h' : Heap} (ho : opField X t x f h = some (z, h')) :
  Lands P C base h p w0 (do pure (.value (← Instr.field t u f))) w z h' := by
 unfold opField at ho
 split at ho
 ·rename_i c
  cases hx with
  | agg _ vs h1 h2 =>
   have hc : RvL C c vs := ⟨h1, h2⟩
   split at ho
   ·rename_i off size ag hf
    obtain ⟨fs, fd, hu, hfd, rfl, hsz0, rfl⟩ := hX.field hf
    split at ho
    ·rename_i hs
     have hs' : 0 < sizeIn P fd.type ∧ (∃ d, P.underlying fd.type = some d) ∧ size = sizeIn P fd.type := by
      rw [← hsz0] at hs ⊢; split at hs
      ·rename_i hi; rw [if_pos hi]; exact ⟨hs, Option.isSome_iff_exists.1 hi, rfl⟩
      ·omega
     obtain ⟨hs, hud, rfl⟩ := hs'
     have hsz := sizeOf_in (P := P) hs w
     split at ho
     ·rename_i hag
      split at ho
      ·rename_i hle
       cases ho
       have hag' : (isAgg fd.type).run P w = .ok true w := by rw [aggOf_run hud w, hag]
       have hr := (hc.drop fd.offset).take (sizeIn P fd.type)
       refine lands_same r (u := .agg ((vs.drop fd.offset).take (sizeIn P fd.type)).toArray) ?_ (.agg _ _ hr.1 hr.2)
       simp only [Instr.field, Sem.run_bind, run_underlying hu, hfd, Result.andThen_ok, asAgg, part, Sem.run_pure, hag', if_true, hsz]
       simp only [List.extract_toArray, Result.ok.injEq, Next.value.injEq, Value.agg.injEq, and_true]
       simp
      ·cases ho
     ·rename_i hag
      cases hcz : c[fd.offset]? with
      | none => rw [hcz] at ho; cases ho
      | some y =>
       rw [hcz] at ho; cases ho
       obtain ⟨v, hv, hrv⟩ := hc.get hcz
       refine lands_same r (u := v) ?_ hrv
       have hag' := aggOf_run (P := P) hud w
       simp only [Bool.not_eq_true] at hag
       rw [hag] at hag'
       simp [Instr.field, run_underlying hu, hfd, asAgg, part, hag', hv]
    ·cases ho
   ·cases ho
 ·cases ho
theorem lands_extract (r : Rel C base h w0 w) {x : AV} {i : Nat} {u : Value} (hx : Rv C x u) {z : AV} {h' : Heap} (ho : opExtract x i h = some (z, h')) :
  Lands P C base h p w0 (do pure (.value (← Instr.extract u i))) w z h' := by
 unfold opExtract at ho
 split at ho
 ·rename_i c
  cases hx with
  | tup _ vs h1 h2 =>
   have hc : RvL C c vs := ⟨h1, h2⟩
   cases hcz : c[i]? with
   | none => rw [hcz] at ho; cases ho
   | some y =>
    rw [hcz] at ho; cases ho
    obtain ⟨v, hv, hrv⟩ := hc.get hcz
    exact lands_same r (u := v) (by simp [Instr.extract, hv]) hrv
 ·cases ho
theorem Rv.elem {y : AV} {v : Value} {blk off : Nat} (hy : Rv C y v) (hk : ∀ j, j < v.cells.size → C.K blk (off + j) = v.cells[j]?) (hpos : 0 < v.cells.size) : Rv C (.eptr y.cells) (.pointer (some ⟨blk, off, none⟩)) := by
 by_cases hag : ∃ c, y = .agg c
 ·obtain ⟨c, rfl⟩ := hag
  cases hy with
  | agg _ vs h1 h2 =>
   simp only [Value.cells, List.size_toArray] at hk hpos
   refine .eptr c (fun j => vs.getD j undef) _ _ (fun j x hj => h2 j x hj) (fun j hj => ?_)
   have hj' : j < vs.length := by rw [h1]; exact hj
   rw [hk j hj']
   simp [List.getD_eq_getElem?_getD, hj']
 ·have hcells : y.cells = [y] := by cases y <;> first | rfl | exact absurd ⟨_, rfl⟩ hag
  have hr : Rv C y (v.cells.getD 0 undef) := by
   cases hy <;> first | exact absurd ⟨_, rfl⟩ hag | exact .junk _ | (simp only [Value.cells]; first | exact .int _ _ | exact .bool _ | exact .str _ | exact .nilp | exact .nilf | exact .nilm | exact .lst _ _ _ _ _ _ ‹_› ‹_› ‹_› ‹_› ‹_› ‹_› | exact .bsl _ _ _ _ _ _ ‹_› ‹_› ‹_› | exact .ref _ _ ‹_› | exact .eptr _ _ _ _ ‹_› ‹_› | exact .clo _ _ _ _ _ ‹_› ‹_› ‹_› ‹_› | exact .yld _ ‹_› | exact .mapr _ ‹_› | exact .tup _ _ ‹_› ‹_› | exact .und)
  rw [hcells]
  refine .eptr [y] (fun _ => v.cells.getD 0 undef) _ _ (fun j x hj => ?_) (fun j hj => ?_)
  ·cases j with
   | zero => simp only [List.getElem?_cons_zero, Option.some.injEq] at hj; subst hj; exact hr
   | succ j => simp at hj
  ·have hj0 : j = 0 := by simpa using hj
   subst hj0
   rw [hk 0 hpos]
   simp [hpos]
theorem lst_inv {t sz : Nat} {xs : List AV} {v : Value} (hv : Rv C (.lst t sz xs) v) : ∃ a cap vs, v = .slice a xs.length cap ∧ xs.length ≤ cap ∧ TagOk C t sz xs.length a cap ∧
  (∀ (i : Nat) (x : AV), xs[i]? = some x → Rv C x (vs i)) ∧ (∀ i, i < xs.length → (vs i).cells.size = sz) ∧ RowAt C sz xs.length a vs := by
 cases hv with
 | lst _ _ _ a cap vs hc ht hx hs hr _ => exact ⟨a, cap, vs, rfl, hc, ht, hx, hs, hr⟩
include hX in
theorem lands_idx (r : Rel C base h w0 w) {t : TypeId} {x i : AV} {u iv : Value} (hx : Rv C x u) (hi : Rv C i iv) {z : AV} (ho : idxAV X t x i = some z) :
  Lands P C base h p w0 (do pure (.value (← Instr.indexAt t u iv))) w z h := by
 unfold idxAV at ho
 split at ho
 ·rename_i k n
  have := hi.int_inv; subst this
  split at ho
  ·cases ho
  ·rename_i hn0
   have hn : 0 ≤ n := by omega
   split at ho
   ·rename_i e tg sz xs hrow
    have hu := hX.row_slice hrow
    split at ho
    ·rename_i y hy
     split at ho
     ·rename_i hs
      cases ho
      obtain ⟨a, cap, vs, rfl, hc, ht, hxs, hsz, hr⟩ := lst_inv hx
      have hlt := (List.getElem?_eq_some_iff.1 hy).1
      obtain ⟨blk, off, rfl, hk⟩ := hr (by omega)
      have hsz' := hX.run_sizeOf (by rw [← hs.1]; exact hs.2) w
      have hlt' : n < (xs.length : Int) := by omega
      refine lands_same r (u := .pointer (some ⟨blk, off + n.toNat * sz, none⟩)) ?_ ?_
      ·simp [Instr.indexAt, asIntOf, run_underlying hu, hn, hlt', hsz', hs.1, add_lit]
      ·exact (hxs _ y hy).elem (fun j hj => hk _ hlt j (by rw [← hsz _ hlt]; exact hj)) (by rw [hsz _ hlt]; exact hs.2)
     ·cases ho
    ·cases ho
   ·rename_i e b off len sz hrow
    have hu := hX.row_slice hrow
    split at ho
    ·rename_i hs
     cases ho
     cases hx with
     | bsl _ _ _ _ a cap hb hc ha =>
      have hsz' := hX.run_sizeOf (by rw [← hs.2.1]; exact hs.2.2) w
      have hlt' : n < (len : Int) := by omega
      rw [ha (by omega)]
      refine lands_same r (u := .pointer (some ⟨C.mu b, off + n.toNat * sz, none⟩)) ?_ (.ref _ _ hb)
      simp [Instr.indexAt, asIntOf, run_underlying hu, hn, hlt', hsz', hs.2.1, add_lit]
    ·cases ho
   ·rename_i len e b off hrow
    have hu := hX.row_array hrow
    split at ho
    ·rename_i hs
     cases ho
     cases hx with
     | ref _ _ hb =>
      have hsz' := hX.run_sizeOf hs.2 w
      have hlt' : n < (len : Int) := by omega
      refine lands_same r (u := .pointer (some ⟨C.mu b, off + n.toNat * tsz X e, none⟩)) ?_ (.ref _ _ hb)
      simp [Instr.indexAt, asIntOf, run_underlying hu, hn, hlt', hsz', Instr.sureAddr, add_lit]
    ·cases ho
   ·rename_i len e c hrow
    have hu := hX.row_array hrow
    split at ho
    ·rename_i hs
     cases ho
     have hx' := hx
     cases hx with
     | eptr _ vs blk off hx1 hk =>
      have hsz' := hX.run_sizeOf hs.2 w
      have hlt' : n < (len : Int) := by omega
      refine lands_same r (u := .pointer (some ⟨blk, off + n.toNat * tsz X e, none⟩)) ?_ (hx'.eptr_drop _)
      simp [Instr.indexAt, asIntOf, run_underlying hu, hn, hlt', hsz', Instr.sureAddr, add_lit]
    ·cases ho
   ·cases ho
 ·cases ho
end
end
section
open Go.RowKit
section
variable {P : Program} {X : Tab} (hX : Fits P X) {C : Ctx} {base : Nat} {h : Heap} {p : Nat × Nat} {w0 w : World}
include hX in
theorem run_part_load {t : TypeId} {c : List AV} {x : AV} {vs : List Value} {k : Nat} (hl : loadAV X t (c.drop k) = some x) (hc : RvL C c vs) :
  ∃ u, (part t vs.toArray k).run P w = .ok u w ∧ Rv C x u := by
 have hd := hc.drop k
 unfold loadAV at hl
 split at hl
 ·rename_i i hi
  obtain ⟨j, hj, rfl⟩ := hX.info hi
  split at hl
  ·rename_i hund
   have hag : (isAgg t).run P w = .ok (tiOf P t j).ag w := aggOf_run (Option.isSome_iff_exists.1 hund) w
   split at hl
   ·rename_i hag'
    split at hl
    ·rename_i hsz
     have hsz : j.size ≤ (c.drop k).length := hsz
     cases hl
     have ht := hd.take j.size
     refine ⟨.agg ((vs.drop k).take j.size).toArray, ?_, .agg _ _ ht.1 ht.2⟩
     simp only [part, Sem.run_bind, hag, hag', if_true, Result.andThen_ok, sizeOf, typeInfo, hj, Sem.run_pure, run_program]
     simp only [List.extract_toArray, Result.ok.injEq, Value.agg.injEq, and_true]
     simp
    ·cases hl
   ·rename_i hag'
    obtain ⟨v, hv, hrv⟩ := hd.get hl
    simp only [List.getElem?_drop, Nat.add_zero] at hv
    simp only [Bool.not_eq_true] at hag'
    exact ⟨v, by simp [part, hag, hag', hv], hrv⟩
  ·cases hl
 ·cases hl
include hX in
theorem lands_index (r : Rel C base h w0 w) {t : TypeId} {x i : AV} {u iv : Value} (hx : Rv C x u) (hi : Rv C i iv) {z : AV} {h' : Heap} (ho : opIndex X t x i h = some (z, h')) :
  Lands P C base h p w0 (do pure (.value (← Instr.index t u iv))) w z h' := by
 unfold opIndex at ho
 split at ho
 ·rename_i k n
  have := hi.int_inv; subst this
  split at ho
  ·cases ho
  ·rename_i hn0
   have hn : 0 ≤ n := by omega
   split at ho
   ·rename_i len e c hrow
    have hu := hX.row_array hrow
    split at ho
    ·rename_i hlt
     cases hl : loadAV X e (c.drop (n.toNat * tsz X e)) with
     | none => rw [hl] at ho; cases ho
     | some y =>
      rw [hl] at ho; cases ho
      cases hx with
      | agg _ vs h1 h2 =>
       obtain ⟨v, hr, hv⟩ := run_part_load (w := w) hX hl ⟨h1, h2⟩
       have hke : ∃ j, P.info? e = some j ∧ j.size = tsz X e := by
        unfold loadAV at hl
        split at hl
        ·rename_i i hi
         obtain ⟨j, hj, rfl⟩ := hX.info hi
         refine ⟨j, hj, ?_⟩
         unfold tsz; rw [hi]; rfl
        ·cases hl
       obtain ⟨j, hj, hjs⟩ := hke
       refine lands_same r (u := v) ?_ hv
       simp [Instr.index, asIntOf, run_underlying hu, hn, hlt, sizeOf, typeInfo, hj, hjs, hr]
    ·cases ho
   ·rename_i s hrow
    have hu := hX.row_str hrow
    have := hx.str_inv; subst this
    cases hs : s[n.toNat]? with
    | none => rw [hs] at ho; cases ho
    | some b =>
     rw [hs] at ho; cases ho
     exact lands_same r (u := .int .u8 b.toNat) (by simp [Instr.index, asIntOf, run_underlying hu, hn, hs]) (.int _ _)
   ·cases ho
 ·cases ho
theorem run_bound {n : Nat} {fr : Frm} {a : Act} (hf : RF C n fr a.tmps) {d : Nat} {o : Option Operand} {l : Nat} (hb : bound fr d o = some l) :
  (o = none ∧ l = d) ∨ ∃ (x : Operand) (k : IntKind), o = some x ∧ a.eval x = .int k (l : Int) := by
 unfold bound at hb
 split at hb
 ·left; cases hb; exact ⟨rfl, rfl⟩
 ·rename_i x
  right
  split at hb
  ·rename_i k i hi
   split at hb
   ·cases hb
   ·rename_i hn
    cases hb
    have := evo_rv hf x
    rw [hi] at this
    exact ⟨x, k, rfl, by rw [this.int_inv]; congr 1; omega⟩
  ·cases hb
theorem run_bounds {sl : Bool} {len cap l u : Nat} {lo hi : Option Value} (h1 : (lo = none ∧ l = 0) ∨ ∃ k, lo = some (.int k (l : Int))) (h2 : (hi = none ∧ u = len) ∨ ∃ k, hi = some (.int k (u : Int)))
  (hlu : l ≤ u) (hu : u ≤ cap) : (Instr.sliceBounds sl len cap lo hi none).run P w = .ok (l, u, cap) w := by
 rcases h1 with ⟨rfl, rfl⟩ | ⟨k1, rfl⟩ <;> rcases h2 with ⟨rfl, rfl⟩ | ⟨k2, rfl⟩ <;>
  simp [Instr.sliceBounds, Instr.sliceBound, asIntOf, hlu, hu] <;> (intro hh; omega)
include hX in
theorem lands_slice (r : Rel C base h w0 w) {n : Nat} {fr : Frm} {a : Act} (hf : RF C n fr a.tmps) {t : TypeId} {x : AV} {u : Value} (hx : Rv C x u) {lo hi : Option Operand} {z : AV} (ho : sliceAV X t x fr lo hi = some z) :
  Lands P C base h p w0 (do pure (.value (← Instr.sliceAt t u (lo.map a.eval) (hi.map a.eval) none))) w z h := by
 have conv : ∀ {d : Nat} {o : Option Operand} {l : Nat}, bound fr d o = some l → (o.map a.eval = none ∧ l = d) ∨ ∃ k, o.map a.eval = some (.int k (l : Int)) := fun hb => by
  rcases run_bound hf hb with ⟨rfl, h⟩ | ⟨x, k, rfl, h⟩
  ·exact .inl ⟨rfl, h⟩
  ·exact .inr ⟨k, by simp [h]⟩
 unfold sliceAV at ho
 split at ho
 ·rename_i e tg sz xs hrow
  have hu := hX.row_slice hrow
  split at ho
  ·rename_i l m hl hm
   split at ho
   ·rename_i hc
    obtain ⟨hlm, hmx, hsz, hpos⟩ := hc
    cases ho
    obtain ⟨ad, cap, vs, rfl, hcap, ht, hxs, hs, hr⟩ := lst_inv hx
    have hrun := run_bounds (P := P) (w := w) (sl := true) (cap := cap) (conv hl) (conv hm) hlm (by omega)
    have hsz' := hX.run_sizeOf (by rw [← hsz]; exact hpos) w
    have hlen : ((xs.take m).drop l).length = m - l := by simp; omega
    have hrv : ∀ ad', (m - l ≠ 0 → ad' = ad.map (·.add (l * sz))) → Rv C (.lst 0 sz ((xs.take m).drop l)) (.slice ad' (m - l) (cap - l)) := fun ad' had => by
     rw [← hlen]
     refine .lst 0 sz _ ad' (cap - l) (fun i => vs (l + i)) (by rw [hlen]; omega) trivial (fun i y hy => ?_) (fun i hi => ?_) (fun hpos => ?_) (fun e => by omega)
     ·rw [List.getElem?_drop, List.getElem?_take] at hy
      split at hy
      ·exact hxs _ y hy
      ·cases hy
     ·rw [hlen] at hi; exact hs _ (by omega)
     ·rw [hlen] at hpos
      obtain ⟨blk, off, rfl, hk⟩ := hr (by omega)
      refine ⟨blk, off + l * sz, by rw [had (by omega)]; simp [add_lit], fun i hi j hj => ?_⟩
      rw [hlen] at hi
      have := hk (l + i) (by omega) j hj
      rw [← this, Nat.add_mul]
      congr 1; omega
    refine lands_same r (u := .slice (if cap = l then ad else ad.map (·.add (l * sz))) (m - l) (cap - l)) ?_ (hrv _ fun hne => by rw [if_neg (by omega)])
    simp [Instr.sliceAt, Instr.slice, run_underlying hu, hrun, hsz', hsz]
   ·cases ho
  ·cases ho
 ·rename_i k e c hrow
  have hu := hX.row_array hrow
  split at ho
  ·rename_i l m hl hm
   split at ho
   ·rename_i hc
    obtain ⟨hlm, hmk, hsz, hkc, hone⟩ := hc
    cases ho
    have hrun := run_bounds (P := P) (w := w) (sl := false) (cap := k) (conv hl) (conv hm) hlm hmk
    have hsz' := hX.run_sizeOf (t := e) (by rw [hsz]; exact Nat.one_pos) w
    rw [hsz] at hsz'
    cases hx with
    | eptr _ vs blk off hx1 hk =>
     have hlen : ((c.take m).drop l).length = m - l := by simp; omega
     have hcell : ∀ i, i < c.length → (vs i).cells = #[vs i] := fun i hi =>
      (hx1 i _ (List.getElem?_eq_getElem hi)).one_cells (List.all_eq_true.1 hone _ (List.getElem_mem hi))
     have hrv : ∀ ad', (m - l ≠ 0 → ad' = some ⟨blk, off + l, none⟩) → Rv C (.lst 0 1 ((c.take m).drop l)) (.slice ad' (m - l) (k - l)) := fun ad' had => by
      rw [← hlen]
      refine .lst 0 1 _ ad' (k - l) (fun i => vs (l + i)) (by rw [hlen]; omega) trivial (fun i y hy => ?_) (fun i hi => ?_) (fun hpos => ?_) (fun e => by omega)
      ·rw [List.getElem?_drop, List.getElem?_take] at hy
       split at hy
       ·exact hx1 _ y hy
       ·cases hy
      ·rw [hlen] at hi; rw [hcell _ (by omega)]; rfl
      ·rw [hlen] at hpos
       refine ⟨blk, off + l, had (by omega), fun i hi j hj => ?_⟩
       rw [hlen] at hi
       have hj0 : j = 0 := by omega
       subst hj0
       rw [hcell _ (by omega)]
       have := hk (l + i) (by omega)
       simp only [Nat.mul_one, Nat.add_zero]
       rw [Nat.add_assoc, this]; rfl
     refine lands_same r (u := .slice (some (if k = l then ⟨blk, off, none⟩ else (⟨blk, off, none⟩ : Addr).add (l * 1))) (m - l) (k - l)) ?_ (hrv _ fun hne => by rw [if_neg (by omega), add_lit]; simp)
     simp [Instr.sliceAt, run_underlying hu, Instr.sureAddr, hrun, hsz']
   ·cases ho
  ·cases ho
 ·rename_i k e b off hrow
  have hu := hX.row_array hrow
  split at ho
  ·rename_i l m hl hm
   split at ho
   ·rename_i hc
    obtain ⟨hlm, hmk, hsz⟩ := hc
    cases ho
    have hrun := run_bounds (P := P) (w := w) (sl := false) (cap := k) (conv hl) (conv hm) hlm hmk
    have hsz' := hX.run_sizeOf (t := e) (by rw [hsz]; exact Nat.one_pos) w
    rw [hsz] at hsz'
    cases hx with
    | ref _ _ hb =>
     refine lands_same r (u := .slice (some (if k = l then ⟨C.mu b, off, none⟩ else (⟨C.mu b, off, none⟩ : Addr).add (l * 1))) (m - l) (k - l)) ?_
      (.bsl _ _ _ _ _ _ hb (by omega) fun hne => by rw [if_neg (by omega), add_lit]; simp)
     simp [Instr.sliceAt, run_underlying hu, Instr.sureAddr, hrun, hsz']
   ·cases ho
  ·cases ho
 ·rename_i s hrow
  have hu := hX.row_str hrow
  split at ho
  ·rename_i l m hl hm
   split at ho
   ·rename_i hc
    obtain ⟨hlm, hms⟩ := hc
    cases ho
    have hrun := run_bounds (P := P) (w := w) (sl := false) (cap := s.size) (conv hl) (conv hm) hlm hms
    have := hx.str_inv; subst this
    refine lands_same r (u := .string (s.extract l m)) ?_ (.str _)
    simp [Instr.sliceAt, Instr.slice, run_underlying hu, hrun]
   ·cases ho
  ·cases ho
 ·cases ho
include hX in
theorem lands_len (r : Rel C base h w0 w) {ts : List TypeId} {xs : List AV} {vs : List Value} (hv : RvL C xs vs) {z : AV} {h' : Heap} {ty : TypeId} (ho : opLen X ts xs h = some (z, h')) :
  Lands P C base h p w0 (do pure (.value (← Builtin.len_ ts.toArray ty vs.toArray))) w z h' := by
 unfold opLen at ho
 split at ho
 ·rename_i t x
  obtain ⟨u, hu0, hx⟩ := hv.get (i := 0) (x := x) rfl
  have hl := hv.1
  match vs, hl, hu0 with
  | [u'], _, hu0 =>
   simp only [List.getElem?_cons_zero, Option.some.injEq] at hu0; subst hu0
   split at ho
   ·rename_i hrow _
    have hu := hX.row_slice hrow
    cases ho
    obtain ⟨ad, cap, vs, rfl, _⟩ := lst_inv hx
    exact lands_same r (by simp [Builtin.len_, run_underlying hu]; rfl) (.int _ _)
   ·rename_i hrow _
    have hu := hX.row_slice hrow
    cases ho
    cases hx with
    | bsl => exact lands_same r (by simp [Builtin.len_, run_underlying hu]; rfl) (.int _ _)
   ·rename_i hrow _
    have hu := hX.row_str hrow
    cases ho
    have := hx.str_inv; subst this
    exact lands_same r (by simp [Builtin.len_, run_underlying hu]; rfl) (.int _ _)
   ·rename_i hrow _
    have hu := hX.row_array hrow
    cases ho
    exact lands_same r (by simp [Builtin.len_, run_underlying hu]; rfl) (.int _ _)
   ·split at ho
    ·rename_i b kt es htm hb
     cases ho
     have hu := hX.map htm
     cases hx with
     | mapr _ hok =>
      obtain ⟨rs, clock, hh, ⟨hlen, _, _⟩, _⟩ := r.box _ _ hb
      have hlt := World.lt_of_heap hh
      have hg := (Array.getElem?_eq_some_iff.1 hh).2
      exact lands_same r (by simp [Builtin.len_, run_underlying hu, getObj, Sem.run, hlt, hg, ← hlen]; rfl) (.int _ _)
    ·cases ho
   ·cases ho
 ·cases ho
theorem two_of {xs : List AV} {vs : List Value} (hv : RvL C xs vs) {x y : AV} (e : xs = [x, y]) : ∃ u v, vs = [u, v] ∧ Rv C x u ∧ Rv C y v := by
 subst e
 have hl := hv.1
 match vs, hl with
 | [u, v], _ => exact ⟨u, v, rfl, by simpa using hv.2 0 x rfl, by simpa using hv.2 1 y rfl⟩
theorem lands_min (r : Rel C base h w0 w) {ts : Array TypeId} {xs : List AV} {vs : List Value} (hv : RvL C xs vs) {z : AV} {h' : Heap} {ty : TypeId} (ho : opMin xs h = some (z, h')) :
  Lands P C base h p w0 (do pure (.value (← Builtin.min_ ts ty vs.toArray))) w z h' := by
 unfold opMin at ho
 split at ho
 ·obtain ⟨u, v, rfl, h1, h2⟩ := two_of hv rfl
  have := h1.int_inv; have := h2.int_inv; subst_vars
  split at ho
  ·rename_i hk; subst hk; cases ho
   exact lands_same r (by simp [run_min_int2]) (.int _ _)
  ·cases ho
 ·cases ho
theorem lands_max (r : Rel C base h w0 w) {ts : Array TypeId} {xs : List AV} {vs : List Value} (hv : RvL C xs vs) {z : AV} {h' : Heap} {ty : TypeId} (ho : opMax xs h = some (z, h')) :
  Lands P C base h p w0 (do pure (.value (← Builtin.max_ ts ty vs.toArray))) w z h' := by
 unfold opMax at ho
 split at ho
 ·obtain ⟨u, v, rfl, h1, h2⟩ := two_of hv rfl
  have := h1.int_inv; have := h2.int_inv; subst_vars
  split at ho
  ·rename_i hk; subst hk; cases ho
   exact lands_same r (by simp [run_max_int2]) (.int _ _)
  ·cases ho
 ·cases ho
end
end
section
open Go.RowKit
section
variable {P : Program} {X : Tab} (hX : Fits P X) {C : Ctx} {base : Nat} {h : Heap} {p : Nat × Nat} {w0 w : World}
theorem lands_new (r : Rel C base h w0 w) (hp : Free C h p.1) {s : Sem Next} {u : Value} {v : AV} (x : ABlk) (o : Obj) (hs : s.run P w = .ok (.value u) (w.alloc o)) (hx : RBlk (C.lay p.1 w.heap.size) (w.alloc o) w.heap.size x)
  (hu : x.under (p.1 + 1)) (hv : Rv (C.lay p.1 w.heap.size) v u) : Lands P C base h p w0 s w v (hput h p.1 x) :=
 ⟨C.lay p.1 w.heap.size, w.alloc o, _, u, hs, .inl rfl, hv, Ctx.le_lay hp.1, r.new hp x o hx hu, fun i _ hne => by simp [Ctx.lay, hne], fun _ _ _ => rfl⟩
theorem rblk_cells {C' : Ctx} {w' : World} {c : List AV} {v : Value} {t : TypeId} {m : Nat} (hh : w'.heap[m]? = some (.cells v.cells t (0, 0))) (hc : RvL C' c v.cells.toList) : RBlk C' w' m (.cells c) :=
 ⟨v.cells.toList, [], t, by simpa using hh, hc⟩
theorem Ctx.lay_ok (C : Ctx) (i m : Nat) : (C.lay i m).ok i = true := by simp [Ctx.lay]
theorem Ctx.lay_mu (C : Ctx) (i m : Nat) : (C.lay i m).mu i = m := by simp [Ctx.lay]
theorem Rv.ref_new (C : Ctx) (i m : Nat) : Rv (C.lay i m) (.ref i 0) (.pointer (some ⟨m, 0, none⟩)) := by
 have := Rv.ref (C := C.lay i m) i 0 (C.lay_ok i m)
 rwa [C.lay_mu] at this
theorem Rv.under_cells {n : Nat} {x : AV} (hu : x.under n = true) : ∀ y ∈ x.cells, y.under n = true := by
 intro y hy
 cases x <;> first | (simp only [AV.cells, List.mem_singleton] at hy; subst hy; exact hu) | skip
 rename_i c
 simp only [AV.cells] at hy
 obtain ⟨i, hi⟩ := List.mem_iff_getElem?.1 hy
 exact underL_mem hu i y hi
include hX in
theorem Fits.zero {t : TypeId} {z : AV} (hz : tzero X t = some z) : ∃ j v, P.info? t = some j ∧ j.zero = some v ∧ ofValue v = some z ∧ j.size = tsz X t := by
 unfold tzero at hz
 cases hg : X.ty.get t with
 | none => rw [hg] at hz; cases hz
 | some i =>
  obtain ⟨j, hj, e'⟩ := hX.info hg
  rw [hg, e'] at hz
  simp only [tiOf, Option.bind_eq_some_iff] at hz
  obtain ⟨v, hv, hz⟩ := hz
  exact ⟨j, v, hj, hv, hz, by unfold tsz; rw [hg, e']; rfl⟩
theorem ofCell_under {v : Value} {x : AV} (h : ofCell v = some x) (n : Nat) : x.under n = true := by
 unfold ofCell at h
 split at h <;> first | (cases h; done) | (cases h; rfl)
theorem ofValue_under {v : Value} {x : AV} (h : ofValue v = some x) (n : Nat) : x.under n = true := by
 unfold ofValue at h
 split at h
 ·rename_i cs
  cases hc : ofCells cs.toList with
  | none => rw [hc] at h; cases h
  | some xs =>
   rw [hc] at h; cases h
   refine underL_of fun y hy => ?_
   have : ∀ (vs : List Value) (xs : List AV), ofCells vs = some xs → ∀ y ∈ xs, y.under n = true := by
    intro vs
    induction vs with
    | nil => intro xs h; simp only [ofCells, Option.some.injEq] at h; subst h; simp
    | cons v vs ih =>
     intro xs h
     simp only [ofCells] at h
     split at h
     ·rename_i x ys h1 h2
      simp only [Option.some.injEq] at h; subst h
      intro y hy
      rcases List.mem_cons.1 hy with e | e
      ·subst e; exact ofCell_under h1 n
      ·exact ih ys h2 y e
     ·cases h
   exact this _ _ hc y hy
 ·exact ofCell_under h n
include hX in
theorem lands_alloc (r : Rel C base h w0 w) (hp : Free C h p.1) {t : TypeId} {z : AV} {h' : Heap} (ho : opAlloc X p.1 t h = some (z, h')) :
  Lands P C base h p w0 (do pure (.value (← Instr.alloc t true (.tuple #[])))) w z h' := by
 unfold opAlloc at ho
 split at ho
 ·rename_i y hy
  cases ho
  obtain ⟨j, v, hj, hjz, hv, _⟩ := hX.zero hy
  refine lands_new r hp (.cells y.cells) (.cells v.cells t) ?_ (rblk_cells (heap_alloc_new w _) (Rv.cells (ofValue_rv hv) (ofValue_var hv))) (Rv.under_cells (ofValue_under hv _)) (Rv.ref_new _ _ _)
  simp [Instr.alloc, zeroValue, typeInfo, hj, hjz, newVar, newRow]
 ·cases ho
theorem lands_box (r : Rel C base h w0 w) (hp : Free C h p.1) {t : TypeId} {x : AV} {u : Value} (hx : Rv C x u) {z : AV} {h' : Heap} (ho : opBox p.1 x h = some (z, h')) :
  Lands P C base h p w0 (do pure (.value (← Instr.box t u))) w z h' := by
 unfold opBox at ho
 split at ho
 ·rename_i hc
  cases ho
  refine lands_new r hp (.cells x.cells) (.cells u.cells t) ?_ (rblk_cells (heap_alloc_new w _) ((hx.cells hc.1).mono (Ctx.le_lay (base := base) hp.1))) (Rv.under_cells hc.2) (Rv.ref_new _ _ _)
  simp [Instr.box, newVar, newRow]
 ·cases ho
theorem lands_makeMap (r : Rel C base h w0 w) (hp : Free C h p.1) {t : TypeId} :
  Lands P C base h p w0 (do pure (.value (← Instr.makeMap t none))) w (.mapr p.1) (hput h p.1 (.map [])) := by
 refine lands_new r hp (.map []) (.map #[] 0) (u := .map (some w.heap.size)) ?_ ⟨[], 0, heap_alloc_new w _, ⟨rfl, rfl, fun i e hi => by simp at hi⟩, fun i k v e hi => by simp at hi⟩ (fun e he => by simp at he) ?_
 ·simp [Instr.makeMap]
 ·have := Rv.mapr (C := C.lay p.1 w.heap.size) p.1 (C.lay_ok _ _)
  rwa [C.lay_mu] at this
include hX in
theorem lands_range (r : Rel C base h w0 w) (hp : Free C h p.1) {t : TypeId} {x : AV} {u : Value} (hx : Rv C x u) {z : AV} {h' : Heap} (ho : opRange X p.1 t x h = some (z, h')) :
  Lands P C base h p w0 (do pure (.value (← Instr.range t u))) w z h' := by
 unfold opRange at ho
 split at ho
 ·rename_i s hrow
  cases ho
  have hu := hX.row_str hrow
  have := hx.str_inv; subst this
  refine lands_new r hp (.siter s 0) (.stringIter s 0) ?_ (heap_alloc_new w _) trivial (Rv.ref_new _ _ _)
  simp [Instr.range, run_underlying hu]
 ·split at ho
  ·rename_i b _ _ km es htm hb
   split at ho
   ·rename_i hbp
    cases ho
    have hu := hX.map (k := km.1) (e := km.2) htm
    cases hx with
    | mapr _ hok =>
     obtain ⟨rs, clock, hh, ⟨hlen, hclk, hborn⟩, hent⟩ := r.box b _ hb
     have hne : b ≠ p.1 := by omega
     refine lands_new r hp (.mit b es.length (List.range es.length) none) (.mapIter (some (C.mu b)) clock #[] clock) (u := .pointer (some ⟨w.heap.size, 0, none⟩)) ?_ ⟨#[], ?_, ?_, fun i => ?_, fun i hi => by cases hi⟩ (show b < p.1 + 1 by omega) (Rv.ref_new _ _ _)
     ·have hlt := World.lt_of_heap hh
      have hg : w.heap[C.mu b] = .map rs.toArray clock := (Array.getElem?_eq_some_iff.1 hh).2
      simp [Instr.range, run_underlying hu, getObj, Sem.run, hg, hlt]
     ·have e : (C.lay p.1 w.heap.size).mu b = C.mu b := by simp [Ctx.lay, hne]
      rw [e, ← hlen, ← hclk]
      exact heap_alloc_new w _
     ·simp [Ctx.lay, hok]
     ·simp
   ·cases ho
  ·cases ho
 ·cases ho
theorem splice_eq : ∀ (vs c : List AV) (off : Nat), off + vs.length ≤ c.length → splice c off vs = c.take off ++ vs ++ c.drop (off + vs.length)
 | [], c, off, _ => by simp [splice]
 | v :: vs, c, off, hl => by
  simp only [List.length_cons] at hl
  rw [splice, splice_eq vs (c.set off v) (off + 1) (by simp; omega)]
  have h1 : (c.set off v).take (off + 1) = c.take off ++ [v] := by
   rw [List.take_set, List.take_succ_eq_append_getElem (by omega), List.set_append_right _ _ (by simp; omega)]
   simp [Nat.min_eq_left (show off ≤ c.length by omega)]
  have h2 : (c.set off v).drop (off + 1 + vs.length) = c.drop (off + (vs.length + 1)) := by
   rw [List.drop_set_of_lt (by omega)]
   congr 1; omega
  rw [h1, h2]
  simp
theorem RvL.append {a b : List AV} {us vs : List Value} (ha : RvL C a us) (hb : RvL C b vs) : RvL C (a ++ b) (us ++ vs) :=
 ⟨by simp [ha.1, hb.1], fun i x hx => by
  rw [List.getElem?_append] at hx
  split at hx
  ·rename_i hlt
   have := ha.2 i x hx
   simpa [List.getD_eq_getElem?_getD, List.getElem?_append, ha.1, hlt] using this
  ·rename_i hlt
   have := hb.2 _ x hx
   simpa [List.getD_eq_getElem?_getD, List.getElem?_append, ha.1, hlt] using this⟩
theorem RvL.splice {c : List AV} {vs : List Value} (hc : RvL C c vs) {d : List AV} {us : List Value} (hd : RvL C d us) {off : Nat} (hl : off + d.length ≤ c.length) :
  RvL C (splice c off d) (vs.take off ++ us ++ vs.drop (off + us.length)) := by
 rw [splice_eq d c off hl, hd.1]
 exact ((hc.take off).append hd).append (hc.drop _)
theorem one_oneCell {x : AV} {v : Value} (hx : Rv C x v) (ho : x.one = true) : v.oneCell' = true := by
 obtain ⟨h1, h2⟩ := hx.one_not ho
 cases v <;> first | rfl | exact absurd rfl (h1 _) | exact absurd rfl (h2 _)
theorem var_ones {x : AV} (hv : x.var = true) : ∀ y ∈ x.cells, y.one = true := by
 intro y hy
 cases x <;> first | (simp only [AV.cells, List.mem_singleton] at hy; subst hy; exact hv) | skip
 simp only [AV.cells] at hy
 simp only [AV.var, List.all_eq_true] at hv
 exact hv y hy
theorem RvL.ones {c : List AV} {vs : List Value} (hc : RvL C c vs) (ho : ∀ y ∈ c, y.one = true) : ∀ v ∈ vs, v.oneCell' = true := by
 intro v hv
 obtain ⟨i, hi⟩ := List.mem_iff_getElem?.1 hv
 have hlt : i < c.length := by rw [← hc.1]; exact (List.getElem?_eq_some_iff.1 hi).1
 have := hc.2 i _ (List.getElem?_eq_getElem hlt)
 rw [List.getD_eq_getElem?_getD, hi] at this
 exact one_oneCell this (ho _ (List.getElem_mem hlt))
theorem Rel.write (r : Rel C base h w0 w) {b off : Nat} {c d : List AV} {us : List Value} (hb : h.b[b]? = some (.cells c)) (hd : RvL C d us) (hl : off + d.length ≤ c.length)
  (ho : ∀ y ∈ d, y.one = true) (hu : ∀ f, C.fl f = true → b < f → ∀ y ∈ d, y.under f = true) :
  ∃ w', (storeCells ⟨C.mu b, off, none⟩ us).run P w = .ok () w' ∧ Rel C base (h.put b (.cells (splice c off d))) w0 w' := by
 obtain ⟨vs, zs, ty, hh, hc⟩ := r.box b _ hb
 have hc1 := hc.1
 have hd1 := hd.1
 have hst := run_storeCells_at P (C.mu b) off ty us 0 (vs ++ zs).toArray w hh (by simp only [List.size_toArray, List.length_append]; omega) (hd.ones ho)
 have e : (vs ++ zs).toArray.toList.take (off + 0) ++ us ++ (vs ++ zs).toArray.toList.drop (off + 0 + us.length) = (vs.take off ++ us ++ vs.drop (off + us.length)) ++ zs := by
  simp only [Nat.add_zero]
  rw [List.take_append_of_le_length (by omega), List.drop_append_of_le_length (by omega), List.append_assoc, List.append_assoc, List.append_assoc]
 rw [e] at hst
 refine ⟨_, hst, r.put hb (by simp) _ (by simp [World.setRow]) rfl rfl rfl (fun k hk => setRow_other w _ k _ hk) ⟨_, zs, ty, setRow_heap w _ _ _ ty _ hh, ?_⟩ ?_⟩
 ·exact hc.splice hd hl
 ·intro f hf hbf y hy
  rw [splice_eq d c off hl] at hy
  have hold := r.und b _ hb f hf hbf
  have hu := hu f hf hbf
  simp only [List.mem_append] at hy
  rcases hy with (hy | hy) | hy
  ·exact hold y (List.mem_of_mem_take hy)
  ·exact hu y hy
  ·exact hold y (List.mem_of_mem_drop hy)
include hX in
theorem lands_store (r : Rel C base h w0 w) {m : Nat} (hfl : ∀ f, C.fl f = true → f ≤ m) {t : TypeId} {a x : AV} {av u : Value} (ha : Rv C a av) (hx : Rv C x u) {z : AV} {h' : Heap} (ho : opStore X m t a x h = some (z, h')) :
  Lands P C base h p w0 (do Instr.storeAt t av u; pure .skip) w z h' := by
 unfold opStore at ho
 split at ho
 ·rename_i b off
  split at ho
  ·rename_i c hb
   split at ho
   ·rename_i hc
    obtain ⟨hvar, hund, hpos, hlen, hfit⟩ := hc
    cases ho
    cases ha with
    | ref _ _ hok =>
     have hd := hx.cells hvar
     obtain ⟨w', hst, hr⟩ := r.write (P := P) hb hd (by rw [hlen]; exact hfit) (var_ones hvar) (fun f hf hbf => Rv.under_cells (hund.elim (fun hu => AV.under_mono hbf _ hu) (fun hpb => by have := hfl f hf; omega)))
     have hsz := hX.run_sizeOf (t := t) (by omega) w
     have hcs : u.cells.size = tsz X t := by have := hd.1; simp at this; omega
     refine ⟨C, w', .skip, undef, ?_, .inr ⟨rfl, rfl⟩, .junk _, Ctx.le.refl base C, hr, fun _ _ _ => rfl, fun _ _ _ => rfl⟩
     simp [Instr.storeAt, Instr.sureAddr, storeVar, hsz, hcs, hst]
   ·cases ho
  ·cases ho
 ·cases ho
theorem lands_entry (r : Rel C base h w0 w) {it : AV} {u : Value} (hx : Rv C it u) {z : AV} {h' : Heap} (ho : opEntry it h = some (z, h')) :
  Lands P C base h p w0 (do pure (.value (← Instr.entry u))) w z h' := by
 unfold opEntry at ho
 split at ho
 ·rename_i j
  cases hx with
  | ref _ _ hok =>
   split at ho
   ·rename_i b n left i hj
    obtain ⟨seen, hh, hb, hleft, hcur⟩ := r.box j _ hj
    obtain ⟨hback, hin⟩ := hcur i rfl
    have hlt := World.lt_of_heap hh
    have hg : w.heap[C.mu j] = .mapIter (some (C.mu b)) n seen n := (Array.getElem?_eq_some_iff.1 hh).2
    split at ho
    ·rename_i es hes
     split at ho
     ·rename_i hlen
      split at ho
      ·rename_i e he
       cases ho
       obtain ⟨rs, clock, hm, ⟨hl, hclk, hborn⟩, hent⟩ := r.box b _ hes
       have hmlt := World.lt_of_heap hm
       have hmg : w.heap[C.mu b] = .map rs.toArray clock := (Array.getElem?_eq_some_iff.1 hm).2
       have hir : i < rs.length := by omega
       have hri := List.getElem?_eq_getElem hir
       have hfind : rs.toArray.find? (fun x => x.born == i) = some rs[i] := by
        rw [← Array.find?_toList]
        simp only [List.find?_eq_some_iff_getElem]
        refine ⟨by simp [hborn i _ hri], i, hir, rfl, fun k hk => ?_⟩
        have hk2 : k < rs.length := by omega
        simp [hborn k _ (List.getElem?_eq_getElem hk2)]; omega
       obtain ⟨ek, ev⟩ := e
       obtain ⟨q1, q2, _⟩ := hent i ek ev rs[i] he hri
       have hclk2 : clock = n := by omega
       refine lands_same r (u := .tuple #[rs[i].key, rs[i].val]) ?_ (.tup _ [rs[i].key, rs[i].val] rfl fun k x hk => ?_)
       ·simp [Instr.entry, getObj, Sem.run, hg, hlt, hback, hmg, hmlt, hclk2, hfind]
       ·match k, hk with
        | 0, hk => simp at hk; subst hk; exact q1
        | 1, hk => simp at hk; subst hk; exact q2
        | k + 2, hk => simp at hk
      ·cases ho
     ·cases ho
    ·cases ho
   ·cases ho
 ·cases ho
theorem lands_next (r : Rel C base h w0 w) {it : AV} {u : Value} (hx : Rv C it u) {ty : TypeId} {z : AV} {h' : Heap} (ho : opNext it h = some (z, h')) :
  Lands P C base h p w0 (do pure (.value (← Instr.next u true ty))) w z h' := by
 unfold opNext at ho
 split at ho
 ·rename_i b
  cases hx with
  | ref _ _ hok =>
   split at ho
   ·rename_i s pos hb
    have hh := r.box b _ hb
    have hh : w.heap[C.mu b]? = some (.stringIter s pos) := hh
    have hlt := World.lt_of_heap hh
    have hg : w.heap[C.mu b] = .stringIter s pos := (Array.getElem?_eq_some_iff.1 hh).2
    split at ho
    ·rename_i hpos
     cases ho
     refine ⟨C, { w with heap := w.heap.setIfInBounds (C.mu b) (.stringIter s (pos + (Utf8.decode s pos).2)) }, _, .tuple #[.bool true, goInt pos, .int .i32 (Utf8.decode s pos).1], ?_, .inl rfl, ?_, Ctx.le.refl base C, ?_, fun _ _ _ => rfl, fun _ _ _ => rfl⟩
     ·simp [Instr.next, getObj, setObj, Sem.run, hg, hlt, hpos]
     ·refine .tup _ [.bool true, .int .i64 pos, .int .i32 (Utf8.decode s pos).1] rfl fun i x hi => ?_
      match i, hi with
      | 0, hi => simp at hi; subst hi; exact .bool _
      | 1, hi => simp at hi; subst hi; exact .int _ _
      | 2, hi => simp at hi; subst hi; exact .int _ _
      | i + 3, hi => simp at hi
     ·refine r.put hb (by simp) _ (by simp) rfl rfl rfl (fun k hk => ?_) ?_ (fun _ _ _ => trivial)
      ·simp [Ne.symm hk]
      ·show _ = _
       simp [hlt]
    ·rename_i hpos
     cases ho
     refine lands_same r (u := .tuple #[.bool false]) (by simp [Instr.next, getObj, Sem.run, hg, hlt, hpos]) (.tup _ [.bool false] rfl fun i x hi => ?_)
     match i, hi with
     | 0, hi => simp at hi; subst hi; exact .bool _
     | i + 1, hi => simp at hi
   ·cases ho
 ·cases ho
end
end
section
open Go.RowKit
section
variable {P : Program} {X : Tab} (hX : Fits P X) {C : Ctx} {base : Nat} {h : Heap} {p : Nat × Nat} {w0 w : World}
def flat (vs : Nat → Value) (n : Nat) : List Value := (List.range n).flatMap fun i => (vs i).cells.toList
theorem flat_succ (vs : Nat → Value) (n : Nat) : flat vs (n + 1) = flat vs n ++ (vs n).cells.toList := by simp [flat, List.range_succ]
theorem flat_length {vs : Nat → Value} {n sz : Nat} (hs : ∀ i, i < n → (vs i).cells.size = sz) : (flat vs n).length = n * sz := by
 induction n with
 | zero => simp [flat]
 | succ n ih =>
  rw [flat_succ, List.length_append, ih fun i hi => hs i (by omega), Array.length_toList, hs n (by omega), Nat.add_mul]; omega
theorem flat_get {vs : Nat → Value} {n sz : Nat} (hs : ∀ i, i < n → (vs i).cells.size = sz) : ∀ i, i < n → ∀ j, j < sz → (flat vs n)[i * sz + j]? = (vs i).cells[j]? := by
 induction n with
 | zero => intro i hi; omega
 | succ n ih =>
  intro i hi j hj
  have hl := flat_length (n := n) fun i hi => hs i (by omega)
  rw [flat_succ, List.getElem?_append]
  by_cases e : i = n
  ·subst e
   rw [if_neg (by rw [hl]; omega), hl]
   have : i * sz + j - i * sz = j := by omega
   rw [this]; simp
  ·have hi' : i < n := by omega
   have hlt : i * sz + j < n * sz := by
    have : (i + 1) * sz ≤ n * sz := Nat.mul_le_mul_right _ (by omega)
    rw [Nat.add_mul] at this; omega
   rw [if_pos (by rw [hl]; exact hlt)]
   exact ih (fun i hi => hs i (by omega)) i hi' j hj
theorem flat_pos {n sz o : Nat} (ho : o < n * sz) : ∃ i j, o = i * sz + j ∧ i < n ∧ j < sz := by
 have hz : 0 < sz := by rcases Nat.eq_zero_or_pos sz with h | h; subst h; simp at ho; exact h
 refine ⟨o / sz, o % sz, ?_, (Nat.div_lt_iff_lt_mul hz).2 ho, Nat.mod_lt _ hz⟩
 rw [Nat.mul_comm]; exact (Nat.div_add_mod o sz).symm
theorem run_first {sz n cap : Nat} {a : Option Addr} {vs : Nat → Value} (hs : ∀ i, i < n → (vs i).cells.size = sz) (hr : RowAt C sz n a vs) {w' : World} (hk : ∀ b o v, C.K b o = some v → w'.cell? ⟨b, o, none⟩ = some v) :
  (Builtin.firstCells sz n (.slice a n cap)).run P w' = .ok (flat vs n).toArray w' := by
 by_cases hn : 0 < n
 ·obtain ⟨blk, off, rfl, hk1⟩ := hr hn
  refine run_firstCells_some w' sz n _ n cap _ (flat_length hs) fun o v hv => ?_
  have hlt : o < n * sz := by have := (List.getElem?_eq_some_iff.1 hv).1; rwa [flat_length hs] at this
  obtain ⟨i, j, rfl, hi, hj⟩ := flat_pos hlt
  rw [flat_get hs i hi j hj] at hv
  rw [add_lit]
  exact hk _ _ _ (by rw [← Nat.add_assoc]; rw [hk1 i hi j hj]; exact hv)
 ·have h0 : n = 0 := by omega
  subst h0
  cases a <;> simp [Builtin.firstCells, loadCells, loadCellsFrom, flat]
def Ctx.retag (C : Ctx) (q : Nat) (kill : Option Nat) (o : Option Nat) (f g : Nat) : Ctx :=
  { C with tk := fun k => k == q || C.tk k, lv := fun k => k == q || (C.lv k && kill != some k), tau := fun k => if k = q then o else C.tau k,
           fr := fun k => if k = q then f else C.fr k, top := fun k => if k = q then g else C.top k }
theorem Ctx.le_retag {q : Nat} {kill o : Option Nat} {f g : Nat} (hq : C.tk q = false) : C.le base (C.retag q kill o f g) where
 ok := fun _ h => ⟨h, rfl⟩
 tk := fun k hk => by
  have hne : k ≠ q := fun e => by subst e; rw [hq] at hk; cases hk
  refine ⟨by simp [Ctx.retag, hk], fun hl => ?_⟩
  simp only [Ctx.retag, Bool.or_eq_true, beq_iff_eq, hne, false_or, Bool.and_eq_true] at hl
  exact ⟨hl.1, by simp [Ctx.retag, hne], by simp [Ctx.retag, hne], by simp [Ctx.retag, hne]⟩
 K := fun _ _ _ h => h
 Kb := fun _ _ _ => rfl
 kp := rfl
 fl := rfl
 bs := rfl
def ttags (h : Heap) (q : Nat) (kill : Option Nat) : List Bool := lset (match kill with | some k => h.t.set k false | none => h.t) q true
theorem Rel.retag (r : Rel C base h w0 w) {q : Nat} {kill o : Option Nat} {f g : Nat} (hq : C.tk q = false) (hq2 : q ≤ h.t.length)
  (ho : ∀ blk, o = some blk → base ≤ blk ∧ (∃ arr ty, w.heap[blk]? = some (.cells arr ty (0, 0)) ∧ g ≤ arr.size) ∧ (∀ x, f ≤ x → C.K blk x = none) ∧
   (∀ i x, h.b[i]? = some x → x ≠ .none → C.mu i ≠ blk) ∧ ∀ k, C.lv k = true → C.tau k = some blk → kill = some k) :
  Rel (C.retag q kill o f g) base ⟨h.b, ttags h q kill⟩ w0 w := by
 have hle : C.le base (C.retag q kill o f g) := Ctx.le_retag hq
 have hlen : (match kill with | some k => h.t.set k false | none => h.t).length = h.t.length := by cases kill <;> simp
 have hne : ∀ k, C.lv k = true → k ≠ q := fun k hk e => by subst e; have := r.lv k hk; rw [hq] at this; cases this
 have hlv : ∀ k, (C.retag q kill o f g).lv k = true → k = q ∨ (C.lv k = true ∧ kill ≠ some k) := fun k hk => by
  simp only [Ctx.retag, Bool.or_eq_true, beq_iff_eq, Bool.and_eq_true, bne_iff_ne] at hk
  exact hk
 refine ⟨r.ok, ?_, ?_, ?_, r.below, r.size, fun i x hx => (r.box i x hx).mono hle rfl, r.has, r.und, r.inj, r.known, ?_, ?_, r.fle, r.bs⟩
 ·intro k hk
  simp only [Ctx.retag, Bool.or_eq_true, beq_iff_eq] at hk
  simp only [ttags, lset_length, hlen]
  rcases hk with hk | hk
  ·subst hk; split <;> omega
  ·have := r.tk k hk; split <;> omega
 ·intro k hk
  rcases hlv k hk with e | ⟨hk, _⟩
  ·subst e; simp [Ctx.retag]
  ·simp [Ctx.retag, r.lv k hk]
 ·intro k hk
  simp only [ttags, lset_get (l := (match kill with | some k => h.t.set k false | none => h.t)) (by rw [hlen]; exact hq2)] at hk
  split at hk
  ·rename_i e; subst e; simp [Ctx.retag]
  ·cases kill with
   | none => have := r.lt k hk; simp [Ctx.retag, this]
   | some k' =>
    simp only [List.getElem?_set] at hk
    split at hk
    ·split at hk <;> cases hk
    ·rename_i e
     have := r.lt k hk
     simp [Ctx.retag, this, e]
 ·intro k blk hk ht
  rcases hlv k hk with e | ⟨hk, _⟩
  ·subst e
   simp only [Ctx.retag, if_true] at ht ⊢
   obtain ⟨a, b, c, d, _⟩ := ho blk ht
   exact ⟨a, b, c, d⟩
  ·have hkq := hne k hk
   simp only [Ctx.retag, hkq, if_false] at ht ⊢
   exact r.tag k blk hk ht
 ·intro j k blk hj hk hjt hkt
  rcases hlv j hj with e1 | ⟨hj1, hj2⟩ <;> rcases hlv k hk with e2 | ⟨hk1, hk2⟩
  ·rw [e1, e2]
  ·exfalso
   subst e1
   have hkq := hne k hk1
   simp only [Ctx.retag, if_true] at hjt
   simp only [Ctx.retag, hkq, if_false] at hkt
   exact hk2 ((ho blk hjt).2.2.2.2 k hk1 hkt)
  ·exfalso
   subst e2
   have hjq := hne j hj1
   simp only [Ctx.retag, if_true] at hkt
   simp only [Ctx.retag, hjq, if_false] at hjt
   exact hj2 ((ho blk hkt).2.2.2.2 j hj1 hjt)
  ·have hkq := hne k hk1
   have hjq := hne j hj1
   simp only [Ctx.retag, hkq, hjq, if_false] at hjt hkt
   exact r.taginj j k blk hj1 hk1 hjt hkt
theorem Rel.learn_new (r : Rel C base h w0 w) (w1 : World) (hw1 : Below w.heap.size w w1) (hs1 : w1.heap.size = w.heap.size) (arr : Array Value) (ty : TypeId) (f : Nat → Option Value) (hf : ∀ o v, f o = some v → arr[o]? = some v) :
  C.le base (C.learn w.heap.size f) ∧ Rel (C.learn w.heap.size f) base h w0 (w1.alloc (.cells arr ty)) := by
 have hKn : ∀ o, C.K w.heap.size o = none := fun o => by
  cases hk : C.K w.heap.size o with
  | none => rfl
  | some v => have := r.known_lt hk; omega
 have hle : C.le base (C.learn w.heap.size f) := Ctx.le_learn C _ f r.size fun o v hv => by rw [hKn] at hv; cases hv
 have hb : Below w.heap.size w (w1.alloc (.cells arr ty)) := hw1.trans ((Below.refl _ _).alloc (by rw [hs1]; exact Nat.le_refl _) _)
 have r' := r.world hb
 refine ⟨hle, r'.ok, r'.tk, r'.lv, r'.lt, r'.below, r'.size, fun i x hx => (r'.box i x hx).mono hle rfl, fun i x hx hn => ?_, r'.und, r'.inj, ?_, fun k blk hl ht => ?_, r'.taginj, r'.fle, r'.bs⟩
 ·obtain ⟨a, b, c, d⟩ := r'.has i x hx hn
  have hlt := (r.has i x hx hn).2.2.1
  exact ⟨a, b, c, fun o => by show (if C.mu i = w.heap.size then f o else C.K (C.mu i) o) = none; rw [if_neg (by omega)]; exact d o⟩
 ·intro b o v hv
  simp only [Ctx.learn] at hv
  split at hv
  ·rename_i e; subst e
   have h1 := heap_alloc_new w1 (.cells arr ty)
   rw [hs1] at h1
   simp only [World.cell?, h1]
   simpa using hf o v hv
  ·exact r'.known b o v hv
 ·obtain ⟨a, b, c, d⟩ := r'.tag k blk hl ht
  obtain ⟨_, ⟨_, _, h2, _⟩, _⟩ := r.tag k blk hl ht
  have hlt := World.lt_of_heap h2
  exact ⟨a, b, fun o ho => by show (if blk = w.heap.size then f o else C.K blk o) = none; rw [if_neg (by omega)]; exact c o ho, d⟩
end
end
section
open Go.RowKit
section
variable {P : Program} {X : Tab} (hX : Fits P X) {C : Ctx} {base : Nat} {h : Heap} {p : Nat × Nat} {w0 w : World}
def FreeT (C : Ctx) (h : Heap) (q : Nat) : Prop := C.tk q = false ∧ q ≤ h.t.length
def joined (n : Nat) (us vs : Nat → Value) : Nat → Value := fun i => if i < n then us i else vs (i - n)
theorem flat_joined (us vs : Nat → Value) (n : Nat) : ∀ m, flat (joined n us vs) (n + m) = flat us n ++ flat vs m
 | 0 => by
  have : ∀ k, k ≤ n → flat (joined n us vs) k = flat us k := by
   intro k
   induction k with
   | zero => intro _; simp [flat]
   | succ k ih => intro hk; rw [flat_succ, flat_succ, ih (by omega)]; simp [joined, show k < n by omega]
  rw [Nat.add_zero, this n (Nat.le_refl _)]; simp [flat]
 | m + 1 => by
  rw [← Nat.add_assoc, flat_succ, flat_joined us vs n m, flat_succ]
  simp [joined, List.append_assoc, show ¬ n + m < n by omega]
def Ctx.fill (C : Ctx) (q blk : Nat) (cs : List Value) : Ctx :=
  { C with K := fun b o => if b = blk ∧ C.fr q ≤ o ∧ o < C.fr q + cs.length then cs[o - C.fr q]? else C.K b o,
           fr := fun k => if k = q then C.fr q + cs.length else C.fr k }
theorem Ctx.fill_K {q blk : Nat} {cs : List Value} {o : Nat} (ho : o < cs.length) : (C.fill q blk cs).K blk (C.fr q + o) = cs[o]? := by
 simp only [Ctx.fill]
 rw [if_pos ⟨trivial, by omega, by omega⟩]
 congr 1; omega
theorem Ctx.le_fill {A : Ctx} (hl : A.le base C) {q blk : Nat} (hq : A.tk q = false) (hb : base ≤ blk) (hK : ∀ o, C.fr q ≤ o → C.K blk o = none) (cs : List Value) : A.le base (C.fill q blk cs) where
 ok := hl.ok
 tk := fun k hk => by
  have hne : k ≠ q := fun e => by subst e; rw [hq] at hk; cases hk
  obtain ⟨h1, h2⟩ := hl.tk k hk
  refine ⟨h1, fun h3 => ?_⟩
  obtain ⟨a, b, c, d⟩ := h2 h3
  exact ⟨a, b, by simp only [Ctx.fill, hne, if_false]; exact c, d⟩
 K := fun b o v hv => by
  have h1 := hl.K b o v hv
  simp only [Ctx.fill]
  split
  ·rename_i hc
   obtain ⟨rfl, h2, _⟩ := hc
   rw [hK o h2] at h1; cases h1
  ·exact h1
 Kb := fun b o hb' => by
  simp only [Ctx.fill]
  rw [if_neg (by omega)]
  exact hl.Kb b o hb'
 kp := hl.kp
 fl := hl.fl
 bs := hl.bs
theorem Rel.fill {A : Ctx} {h0 : Heap} (rA : Rel A base h0 w0 w) (hl : A.le base C) (hmu : A.mu = C.mu) (hb0 : h0.b = h.b) (r : Rel C base h w0 w) {q blk : Nat} (hqA : A.tk q = false) (hq : C.lv q = true) (ht : C.tau q = some blk) {cs : List Value} (hfit : C.fr q + cs.length ≤ C.top q) (ho : ∀ v ∈ cs, v.oneCell' = true) :
  ∃ w', (storeCells ⟨blk, C.fr q, none⟩ cs).run P w = .ok () w' ∧ A.le base (C.fill q blk cs) ∧ Rel (C.fill q blk cs) base h w0 w' := by
 obtain ⟨hb, ⟨arr, ty, hh, hsz⟩, hK, hbox⟩ := r.tag q blk hq ht
 have hst := run_storeCells_at P blk (C.fr q) ty cs 0 arr w hh (by omega) ho
 refine ⟨_, hst, ?_⟩
 obtain ⟨l, hl'⟩ : ∃ l, l = arr.toList.take (C.fr q + 0) ++ cs ++ arr.toList.drop (C.fr q + 0 + cs.length) := ⟨_, rfl⟩
 rw [← hl']
 have hlen : l.length = arr.size := by rw [hl']; simp; omega
 have hget : ∀ o, l[o]? = if C.fr q ≤ o ∧ o < C.fr q + cs.length then cs[o - C.fr q]? else arr[o]? := fun o => by
  rw [hl', List.append_assoc, List.getElem?_append]
  have h1 : (arr.toList.take (C.fr q + 0)).length = C.fr q := by simp; omega
  rw [h1]
  by_cases h2 : o < C.fr q
  ·rw [if_pos h2, if_neg (by omega), List.getElem?_take, if_pos (by omega)]; simp
  ·rw [if_neg h2, List.getElem?_append]
   by_cases h3 : o - C.fr q < cs.length
   ·rw [if_pos h3, if_pos (by omega)]
   ·rw [if_neg h3, if_neg (by omega), List.getElem?_drop]
    have e : C.fr q + 0 + cs.length + (o - C.fr q - cs.length) = o := by omega
    rw [e]; simp
 have hrow := setRow_heap w blk arr l.toArray ty (0, 0) hh
 have hother : ∀ k, k ≠ blk → (w.setRow blk l.toArray).heap[k]? = w.heap[k]? := fun k hk => setRow_other w _ k _ hk
 have hsize : (w.setRow blk l.toArray).heap.size = w.heap.size := by simp [World.setRow]
 have hbel : Below base w (w.setRow blk l.toArray) := ⟨rfl, rfl, rfl, by rw [hsize]; exact Nat.le_refl _, fun k hk => hother k (by omega)⟩
 have hle : A.le base (C.fill q blk cs) := Ctx.le_fill hl hqA hb hK cs
 refine ⟨hle, r.ok, r.tk, r.lv, r.lt, r.below.trans hbel, by rw [hsize]; exact r.size, ?_, ?_, r.und, r.inj, ?_, ?_, r.taginj, r.fle, r.bs⟩
 ·intro i x hx
  by_cases hn : x = .none
  ·exact RBlk.none_of hn
  ·have := rA.box i x (by rw [hb0]; exact hx)
   rw [hmu] at this
   exact this.mono hle (hother _ (hbox i x hx hn))
 ·intro i x hx hn
  obtain ⟨a, b, c, d⟩ := r.has i x hx hn
  refine ⟨a, b, by rw [hsize]; exact c, fun o => ?_⟩
  simp only [Ctx.fill]
  rw [if_neg fun e => hbox i x hx hn e.1]
  exact d o
 ·intro b o v hv
  simp only [Ctx.fill] at hv
  split at hv
  ·rename_i hc
   obtain ⟨e, h2, h3⟩ := hc
   rw [e, cell_setRow_same w blk o arr l.toArray ty (0, 0) hh, List.getElem?_toArray, hget]
   rw [if_pos (And.intro h2 h3)]; exact hv
  ·rename_i hc
   by_cases e : b = blk
   ·subst e
    have h1 := r.known b o v hv
    simp only [World.cell?, hh] at h1
    rw [cell_setRow_same w b o arr l.toArray ty (0, 0) hh, List.getElem?_toArray, hget, if_neg fun e => hc ⟨rfl, e⟩]; exact h1
   ·rw [cell_setRow_other w blk _ _ e]; exact r.known b o v hv
 ·intro k b' hl' ht'
  by_cases e : k = q
  ·subst e
   rw [show C.tau k = some b' from ht'] at ht; cases ht
   refine ⟨hb, ⟨l.toArray, ty, hrow, by simp only [List.size_toArray, hlen]; exact hsz⟩, fun o ho' => ?_, hbox⟩
   simp only [Ctx.fill, if_true] at ho' ⊢
   rw [if_neg (by omega)]
   exact hK o (by omega)
  ·obtain ⟨a, ⟨arr', ty', h2, h3⟩, h4, h5⟩ := r.tag k b' hl' ht'
   have hne : b' ≠ blk := fun e' => e (r.taginj k q b' hl' hq ht' (by rw [e']; exact ht))
   refine ⟨a, ⟨arr', ty', (hother _ hne).trans h2, h3⟩, fun o ho' => ?_, h5⟩
   simp only [Ctx.fill, e, if_false] at ho' ⊢
   rw [if_neg fun e' => hne e'.1]
   exact h4 o ho'
theorem run_append_in (t u ty e : TypeId) {d : TypeDesc} (ht : P.underlying t = some (.slice e)) (hu : P.underlying u = some d) (hd : ∀ k, d ≠ .int k) {S : Nat} {w' : World}
  (hS : (sizeOf e).run P w = .ok S w) (b : Option Addr) (n1 c1 : Nat) (a : Option Addr) (n c : Nat) (news : List Value)
  (hf : (Builtin.firstCells S n (.slice a n c)).run P w = .ok news.toArray w) (hin : n1 + n ≤ c1)
  (hst : ∀ x, b = some x → (storeCells (x.add (n1 * S)) news).run P w = .ok () w') (hst0 : b = none → w' = w) :
  (Builtin.append_ #[t, u] ty #[.slice b n1 c1, .slice a n c]).run P w = .ok (.slice b (n1 + n) c1) w' := by
 cases b with
 | none =>
  have := hst0 rfl; subst this
  simp [Builtin.append_, run_underlying ht, run_underlying hu, hS, Builtin.lenOf, hin, hf]
 | some x =>
  simp [Builtin.append_, run_underlying ht, run_underlying hu, hS, Builtin.lenOf, hin, hf, hst x rfl]
theorem run_append_out (t u ty e : TypeId) {d : TypeDesc} {i : TypeInfo} {z : Value} (ht : P.underlying t = some (.slice e)) (hu : P.underlying u = some d) (hd : ∀ k, d ≠ .int k)
  (hi : P.info? e = some i) (hz : i.zero = some z) (b : Option Addr) (n1 c1 : Nat) (a : Option Addr) (n c : Nat) (olds news : List Value)
  (ho : (Builtin.firstCells i.size n1 (.slice b n1 c1)).run P w.drew = .ok olds.toArray w.drew)
  (hf : (Builtin.firstCells i.size n (.slice a n c)).run P w.drew = .ok news.toArray w.drew) (hout : c1 < n1 + n) (hfit : (n1 + n) * i.bytes ≤ 140737488355328) (h63 : n1 + n ≤ 140737488355328) :
  (Builtin.append_ #[t, u] ty #[.slice b n1 c1, .slice a n c]).run P w =
   .ok (.slice (some ⟨w.heap.size, 0, none⟩) (n1 + n) (grownCap w (n1 + n) c1 e))
    (w.drew.alloc (.cells (olds.toArray ++ news.toArray ++ Builtin.zeroCells z.cells (grownCap w (n1 + n) c1 e - (n1 + n))) e)) := by
 have hn : ¬ (n1 + n ≤ c1) := by omega
 have h48 := growslice_fits (bytes := i.bytes) hout hfit
 have h48' : ¬ (281474976710656 < Builtin.nextslicecap (n1 + n) c1 * i.bytes) := by omega
 have h63' : ¬ (9223372036854775807 < ((n1 : Int) + (n : Int))) := by omega
 simp [Builtin.append_, run_underlying ht, run_underlying hu, sizeOf, typeInfo, zeroValue, hi, hz, Builtin.lenOf, hn, h63', h48', Question.forced, hf, ho, newRow, grownCap]
 rw [← List.append_toArray, Array.append_assoc]
theorem flat_ones {xs : List AV} {vs : Nat → Value} (hx : ∀ i x, xs[i]? = some x → Rv C x (vs i)) (hv : xs.all AV.var = true) : ∀ v ∈ flat vs xs.length, v.oneCell' = true := by
 intro v hv'
 simp only [flat, List.mem_flatMap, List.mem_range] at hv'
 obtain ⟨i, hi, hm⟩ := hv'
 have hxi := hx i _ (List.getElem?_eq_getElem hi)
 have hvar : (xs[i]).var = true := List.all_eq_true.1 hv _ (List.getElem_mem hi)
 exact (hxi.cells hvar).ones (var_ones hvar) v hm
theorem rv_joined {C' : Ctx} {t S cap' : Nat} {xs ys : List AV} {us vs : Nat → Value} (hx : ∀ i x, xs[i]? = some x → Rv C' x (us i)) (hy : ∀ i x, ys[i]? = some x → Rv C' x (vs i))
  (hus : ∀ i, i < xs.length → (us i).cells.size = S) (hvs : ∀ i, i < ys.length → (vs i).cells.size = S) {ad : Option Addr}
  (hc : xs.length + ys.length ≤ cap') (ht : TagOk C' t S (xs.length + ys.length) ad cap')
  (hr : ∀ o, o < (xs.length + ys.length) * S → ∃ blk off, ad = some ⟨blk, off, none⟩ ∧ C'.K blk (off + o) = (flat us xs.length ++ flat vs ys.length)[o]?)
  (hS : 0 < S) : Rv C' (.lst t S (xs ++ ys)) (.slice ad (xs.length + ys.length) cap') := by
 have hl : (xs ++ ys).length = xs.length + ys.length := List.length_append
 have hsz : ∀ i, i < xs.length + ys.length → (joined xs.length us vs i).cells.size = S := fun i hi => by
  unfold joined
  split
  ·exact hus i (by assumption)
  ·exact hvs _ (by omega)
 rw [← hl]
 refine .lst t S _ ad cap' (joined xs.length us vs) (by rw [hl]; exact hc) (by rw [hl]; exact ht) (fun i x hi => ?_) (fun i hi => hsz i (by omega)) ?_ (fun e => by omega)
 ·rw [List.getElem?_append] at hi
  unfold joined
  split at hi
  ·rename_i h1; rw [if_pos h1]; exact hx i x hi
  ·rename_i h1; rw [if_neg h1]; exact hy _ x hi
 ·rw [hl]
  intro hn
  obtain ⟨blk, off, rfl, _⟩ := hr 0 (Nat.mul_pos hn hS)
  refine ⟨blk, off, rfl, fun i hi j hj => ?_⟩
  have hlt : i * S + j < (xs.length + ys.length) * S := by
   have : (i + 1) * S ≤ (xs.length + ys.length) * S := Nat.mul_le_mul_right _ hi
   rw [Nat.add_mul] at this; omega
  obtain ⟨blk', off', e, hk⟩ := hr (i * S + j) hlt
  cases e
  rw [Nat.add_assoc, hk, ← flat_joined]
  exact flat_get hsz i hi j hj
theorem row_resize {sz S n : Nat} {a : Option Addr} {vs : Nat → Value} (hs : ∀ i, i < n → (vs i).cells.size = sz) (hr : RowAt C sz n a vs) (e : sz = S ∨ n = 0) :
  (∀ i, i < n → (vs i).cells.size = S) ∧ RowAt C S n a vs := by
 rcases e with e | e
 ·subst e; exact ⟨hs, hr⟩
 ·subst e; exact ⟨fun i hi => by omega, fun hn => by omega⟩
theorem row_flat {S n blk off : Nat} {vs : Nat → Value} (hs : ∀ i, i < n → (vs i).cells.size = S) (hr : RowAt C S n (some ⟨blk, off, none⟩) vs) {o : Nat} (ho : o < n * S) : C.K blk (off + o) = (flat vs n)[o]? := by
 obtain ⟨i, j, rfl, hi, hj⟩ := flat_pos ho
 obtain ⟨blk', off', e, hk⟩ := hr (by omega)
 cases e
 rw [flat_get hs i hi j hj, ← hk i hi j hj, Nat.add_assoc]
theorem row_some {S n : Nat} {a : Option Addr} {vs : Nat → Value} (hr : RowAt C S n a vs) (hn : 0 < n) : ∃ blk off, a = some ⟨blk, off, none⟩ := by
 obtain ⟨blk, off, h, _⟩ := hr hn; exact ⟨blk, off, h⟩
include hX in
theorem lands_appendG (r : Rel C base h w0 w) (hq : FreeT C h p.2) {t u ty : TypeId} {x : AV} {tag2 sz2 : Nat} {ys : List AV} {xv yv : Value} (hx : Rv C x xv) {vs : Nat → Value}
  (hys : ∀ i x, ys[i]? = some x → Rv C x (vs i)) (hs2 : ∀ i, i < ys.length → (vs i).cells.size = sz2)
  (hIn : ∀ {e S : Nat} {w' : World}, P.underlying t = some (.slice e) → (sizeOf e).run P w = .ok S w → (sz2 = S ∨ ys.length = 0) → ∀ (b : Option Addr) (n1 c1 : Nat), n1 + ys.length ≤ c1 →
   (∀ x, b = some x → (storeCells (x.add (n1 * S)) (flat vs ys.length)).run P w = .ok () w') → (b = none → w' = w) → (Builtin.append_ #[t, u] ty #[.slice b n1 c1, yv]).run P w = .ok (.slice b (n1 + ys.length) c1) w')
  (hOut : ∀ {e : Nat} {i : TypeInfo} {z : Value}, P.underlying t = some (.slice e) → P.info? e = some i → i.zero = some z → (sz2 = i.size ∨ ys.length = 0) → ∀ (b : Option Addr) (n1 c1 : Nat) (olds : List Value),
   (Builtin.firstCells i.size n1 (.slice b n1 c1)).run P w.drew = .ok olds.toArray w.drew → c1 < n1 + ys.length → (n1 + ys.length) * i.bytes ≤ 140737488355328 → n1 + ys.length ≤ 140737488355328 →
   (Builtin.append_ #[t, u] ty #[.slice b n1 c1, yv]).run P w =
    .ok (.slice (some ⟨w.heap.size, 0, none⟩) (n1 + ys.length) (grownCap w (n1 + ys.length) c1 e))
     (w.drew.alloc (.cells (olds.toArray ++ (flat vs ys.length).toArray ++ Builtin.zeroCells z.cells (grownCap w (n1 + ys.length) c1 e - (n1 + ys.length))) e)))
  {z : AV} {h' : Heap} (ho : appendAV X t p.2 h x (.lst tag2 sz2 ys) = some (z, h')) :
  Lands P C base h p w0 (do pure (.value (← Builtin.append_ #[t, u] ty #[xv, yv]))) w z h' := by
 unfold appendAV at ho
 split at ho
 ·rename_i e hrow
  have hut := hX.row_slice hrow
  split at ho
  ·rename_i tag sz xs tag2 sz2 ys hyy
   cases hyy
   split at ho
   ·rename_i hc
    obtain ⟨hsz2, hS, hbytes, hsmall, hzf, hvar⟩ := hc
    obtain ⟨a1, c1, us, rfl, hcap1, ht1, hxs, hs1, hr1⟩ := lst_inv hx
    obtain ⟨j, hj, hjs, hjt⟩ := hX.size_pos hS
    have hSz := hX.run_sizeOf hS w
    have hbt : tbytes X e = j.bytes := by unfold tbytes; rw [hjt]; rfl
    obtain ⟨zc, hz0, hzl⟩ : ∃ zc, j.zero = some zc ∧ zc.cells.size = tsz X e := by
     unfold zeroFits at hzf
     split at hzf
     ·rename_i z0 hz0
      obtain ⟨j', v', hj', hv', hov, _⟩ := hX.zero hz0
      rw [hj] at hj'; cases hj'
      simp only [Bool.and_eq_true, beq_iff_eq] at hzf
      have hcells := Rv.cells (C := C) (ofValue_rv hov) hzf.2
      refine ⟨v', hv', ?_⟩
      rw [← hzf.1, ← hcells.1]; simp
     ·cases hzf
    have hs2' : ∀ i, i < ys.length → (vs i).cells.size = tsz X e := fun i hi => by
     rcases hsz2 with e | e
     ·rw [← e]; exact hs2 i hi
     ·omega
    have key : ∀ (kill : Option Nat), Low C xs.length a1 → (sz = tsz X e ∨ xs.length = 0) →
      ((c1 = xs.length ∧ (xs.length = 0 ∨ 0 < ys.length)) ∨ ∃ k blk off, kill = some k ∧ C.lv k = true ∧ C.tau k = some blk ∧ a1 = some ⟨blk, off, none⟩ ∧ off + xs.length * tsz X e = C.fr k ∧ off + c1 * tsz X e ≤ C.top k) →
      Lands P C base h p w0 (do pure (.value (← Builtin.append_ #[t, u] ty #[.slice a1 xs.length c1, yv]))) w (.lst (p.2 + 2) (tsz X e) (xs ++ ys)) ⟨h.b, ttags h p.2 kill⟩ := by
     intro kill hlow hsz1 hown
     obtain ⟨hs1', hr1'⟩ := row_resize hs1 hr1 hsz1
     have hmulS : ∀ {m n : Nat}, m ≤ n → m * tsz X e ≤ n * tsz X e := fun hmn => Nat.mul_le_mul_right _ hmn
     have hfl2 := flat_length hs2'
     have hfl1 := flat_length hs1'
     by_cases hin : xs.length + ys.length ≤ c1
     ·rcases hown with ⟨hfull, hfull0⟩ | ⟨k, blk, off, rfl, hlv, htau, rfl, hfr, htop⟩
      ·have h0 : ys.length = 0 := by omega
       have hys0 : ys = [] := List.eq_nil_of_length_eq_zero h0
       have hrun := hIn (w' := w) hut hSz hsz2 a1 xs.length c1 hin (fun x _ => by rw [h0]; simp [flat, storeCells]) (fun _ => rfl)
       have hle : C.le base (C.retag p.2 kill none 0 0) := Ctx.le_retag hq.1
       refine ⟨C.retag p.2 kill none 0 0, w, _, .slice a1 (xs.length + ys.length) c1, by simp [hrun], .inl rfl, ?_, hle, r.retag hq.1 hq.2 (fun blk hb => by cases hb), fun _ _ _ => rfl, fun k _ hne => by simp [Ctx.retag, hne]⟩
       refine rv_joined (fun i x hx => (hxs i x hx).mono hle) (fun i x hx => (hys i x hx).mono hle) hs1' hs2' hin ⟨by simp [Ctx.retag], fun hn b o e => hlow (by omega) b o e, fun _ => ?_⟩ (fun o ho => ?_) hS
       ·simp only [Ctx.retag, if_true]; exact ⟨by omega, by omega⟩
       ·rw [h0, Nat.add_zero] at ho
        have hn1 : 0 < xs.length := by
         rcases Nat.eq_zero_or_pos xs.length with h | h
         ·rw [h] at ho; simp at ho
         ·exact h
        obtain ⟨blk, off, rfl⟩ := row_some hr1' hn1
        refine ⟨blk, off, rfl, ?_⟩
        have e1 : flat vs ys.length = [] := by rw [h0]; rfl
        rw [e1, List.append_nil]
        exact row_flat hs1' hr1' ho
      ·obtain ⟨hb1, hb2, hb3, hb4⟩ := r.tag k blk hlv htau
       have hle : C.le base (C.retag p.2 (some k) (some blk) (C.fr k) (C.top k)) := Ctx.le_retag hq.1
       have r1 := r.retag (kill := some k) (o := some blk) (f := C.fr k) (g := C.top k) hq.1 hq.2 (fun b hb => by
        cases hb
        exact ⟨hb1, hb2, hb3, hb4, fun k' h1 h2 => by rw [r.taginj k' k blk h1 hlv h2 htau]⟩)
       have hfq : (C.retag p.2 (some k) (some blk) (C.fr k) (C.top k)).fr p.2 = C.fr k := by simp [Ctx.retag]
       have htq : (C.retag p.2 (some k) (some blk) (C.fr k) (C.top k)).top p.2 = C.top k := by simp [Ctx.retag]
       have hm := hmulS hin
       rw [Nat.add_mul] at hm
       obtain ⟨w', hst, hle2, r2⟩ := Rel.fill (P := P) (q := p.2) (blk := blk) (cs := flat vs ys.length) (h := ⟨h.b, ttags h p.2 (some k)⟩) r hle rfl rfl r1 hq.1 (by simp [Ctx.retag]) (by simp [Ctx.retag]) (by rw [hfq, htq, hfl2]; omega) (flat_ones hys hvar)
       rw [hfq, ← hfr] at hst
       have hrun := hIn (w' := w') hut hSz hsz2 (some ⟨blk, off, none⟩) xs.length c1 hin (fun x hx => by cases hx; rw [add_lit]; exact hst) (fun hx => by cases hx)
       refine ⟨_, w', _, .slice (some ⟨blk, off, none⟩) (xs.length + ys.length) c1, by simp [hrun], .inl rfl, ?_, hle2, r2, fun _ _ _ => rfl, fun k' _ hne => by simp [Ctx.retag, Ctx.fill, hne]⟩
       refine rv_joined (fun i x hx => (hxs i x hx).mono hle2) (fun i x hx => (hys i x hx).mono hle2) hs1' hs2' hin ⟨by simp [Ctx.retag, Ctx.fill], fun _ b o e => by cases e; exact Nat.le_trans r.bs hb1, fun _ => ?_⟩ (fun o ho => ⟨blk, off, rfl, ?_⟩) hS
       ·have e1 : (Ctx.fill (C.retag p.2 (some k) (some blk) (C.fr k) (C.top k)) p.2 blk (flat vs ys.length)).tau p.2 = some blk := by simp [Ctx.fill, Ctx.retag]
        rw [e1]
        refine ⟨off, rfl, ?_, ?_⟩
        ·simp only [Ctx.fill, if_true, hfq, hfl2, Nat.add_mul]; omega
        ·show _ ≤ (C.retag p.2 (some k) (some blk) (C.fr k) (C.top k)).top p.2
         rw [htq]; exact htop
       ·rw [List.getElem?_append, hfl1]
        by_cases h1 : o < xs.length * tsz X e
        ·rw [if_pos h1]
         simp only [Ctx.fill, hfq]
         rw [if_neg (by omega)]
         exact row_flat hs1' hr1' h1
        ·rw [if_neg h1]
         rw [Nat.add_mul] at ho
         have h2 := Ctx.fill_K (C := C.retag p.2 (some k) (some blk) (C.fr k) (C.top k)) (q := p.2) (blk := blk) (cs := flat vs ys.length) (o := o - xs.length * tsz X e) (by rw [hfl2]; omega)
         rw [hfq] at h2
         rw [← h2]; congr 1; omega
     ·have hf1 : (Builtin.firstCells j.size xs.length (.slice a1 xs.length c1)).run P w.drew = .ok (flat us xs.length).toArray w.drew := run_first (by rw [hjs]; exact hs1') (by rw [hjs]; exact hr1') fun b o v hv => r.known b o v hv
      have hlim : (xs.length + ys.length) * j.bytes ≤ 140737488355328 := by rw [← hbt]; exact Nat.le_trans hbytes (by decide)
      have hrun := hOut hut hj hz0 (by rw [hjs]; exact hsz2) a1 xs.length c1 (flat us xs.length) hf1 (by omega) hlim hsmall
      generalize hcap : grownCap w (xs.length + ys.length) c1 e = cap at hrun
      have hcapge : xs.length + ys.length ≤ cap := by rw [← hcap]; simp only [grownCap, Question.cut]; omega
      generalize harr : (flat us xs.length).toArray ++ (flat vs ys.length).toArray ++ Builtin.zeroCells zc.cells (cap - (xs.length + ys.length)) = arr at hrun
      have hasz : arr.size = cap * tsz X e := by
       rw [← harr]
       have hm := hmulS hcapge
       rw [Nat.add_mul] at hm
       simp only [Array.size_append, List.size_toArray, hfl1, hfl2, Builtin.zeroCells, Array.size_map, Array.size_range, hzl, Nat.sub_mul, Nat.add_mul]
       omega
      obtain ⟨hle1, r1⟩ := r.learn_new w.drew ((Below.refl _ _).drew) rfl arr e (fun o => (flat us xs.length ++ flat vs ys.length)[o]?) (fun o v hv => by
       have hlt := (List.getElem?_eq_some_iff.1 hv).1
       rw [← harr, Array.getElem?_append_left (by simpa using hlt)]
       simpa using hv)
      have hKf : ∀ o, (C.learn w.heap.size fun o => (flat us xs.length ++ flat vs ys.length)[o]?).K w.heap.size o = (flat us xs.length ++ flat vs ys.length)[o]? := fun o => by simp [Ctx.learn]
      have r2 := r1.retag (q := p.2) (kill := kill) (o := some w.heap.size) (f := (xs.length + ys.length) * tsz X e) (g := arr.size) hq.1 hq.2 (fun b hb => by
       cases hb
       refine ⟨r.size, ⟨arr, e, ?_, Nat.le_refl _⟩, fun x hx => ?_, fun i x hx hn => ?_, fun k' h1 h2 => ?_⟩
       ·exact heap_alloc_new w.drew _
       ·rw [hKf, List.getElem?_eq_none]
        rw [List.length_append, hfl1, hfl2, ← Nat.add_mul]; exact hx
       ·have := (r.has i x hx hn).2.2.1
        intro e'; have e' : C.mu i = w.heap.size := e'; omega
       ·obtain ⟨_, ⟨_, _, h3, _⟩, _⟩ := r.tag k' _ h1 h2
        have := World.lt_of_heap h3; omega)
      have hle2 := hle1.trans (Ctx.le_retag (base := base) (C := C.learn w.heap.size fun o => (flat us xs.length ++ flat vs ys.length)[o]?) (q := p.2) (kill := kill) (o := some w.heap.size) (f := (xs.length + ys.length) * tsz X e) (g := arr.size) hq.1)
      refine ⟨_, _, _, .slice (some ⟨w.heap.size, 0, none⟩) (xs.length + ys.length) cap, by simp [hrun], .inl rfl, ?_, hle2, r2, fun _ _ _ => rfl, fun k' _ hne => by simp [Ctx.retag, Ctx.learn, hne]⟩
      refine rv_joined (fun i x hx => (hxs i x hx).mono hle2) (fun i x hx => (hys i x hx).mono hle2) hs1' hs2' hcapge ⟨by simp [Ctx.retag], fun _ b o e => by cases e; exact Nat.le_trans r.bs r.size, fun _ => ?_⟩ (fun o ho => ⟨_, 0, rfl, ?_⟩) hS
      ·simp only [Ctx.retag, if_true]
       exact ⟨0, rfl, by omega, by rw [hasz]; omega⟩
      ·rw [Nat.zero_add]; exact hKf o
    match tag, ho, ht1 with
    | 1, ho, ht1 =>
     simp only at ho
     split at ho
     ·rename_i hsz1; cases ho
      exact key none ht1.2 hsz1.1 (.inl ⟨ht1.1.symm, hsz1.2⟩)
     ·cases ho
    | k + 2, ho, ht1 =>
     simp only at ho
     split at ho
     ·rename_i hsz1
      split at ho
      ·rename_i hlive
       cases ho
       have hlv := r.lt k hlive
       have hown := ht1.2.2 hlv
       refine key (some k) ht1.2.1 (.inl hsz1) ?_
       cases htau : C.tau k with
       | none => rw [htau] at hown; exact .inl ⟨hown.1.symm, .inl hown.2⟩
       | some blk =>
        rw [htau] at hown
        obtain ⟨off, e1, e2, e3⟩ := hown
        rw [hsz1] at e2 e3
        exact .inr ⟨k, blk, off, rfl, hlv, htau, e1, e2, e3⟩
      ·cases ho
     ·cases ho
    | 0, ho, _ => simp at ho
   ·cases ho
  ·cases ho
 ·cases ho
include hX in
theorem lands_append' (r : Rel C base h w0 w) (hq : FreeT C h p.2) {t u ty : TypeId} {x : AV} {tag2 sz2 : Nat} {ys : List AV} {xv : Value} (hx : Rv C x xv) {a2 : Option Addr} {c2 : Nat} {vs : Nat → Value}
  (hys : ∀ i x, ys[i]? = some x → Rv C x (vs i)) (hs2 : ∀ i, i < ys.length → (vs i).cells.size = sz2)
  (hfst : ∀ S, (sz2 = S ∨ ys.length = 0) → ∀ w2, (w2 = w ∨ w2 = w.drew) → (Builtin.firstCells S ys.length (.slice a2 ys.length c2)).run P w2 = .ok (flat vs ys.length).toArray w2)
  (hu : known X u = true) (hi : (tint X u).isNone = true)
  {z : AV} {h' : Heap} (ho : appendAV X t p.2 h x (.lst tag2 sz2 ys) = some (z, h')) :
  Lands P C base h p w0 (do pure (.value (← Builtin.append_ #[t, u] ty #[xv, .slice a2 ys.length c2]))) w z h' := by
 obtain ⟨d, hud, hnd⟩ : ∃ d, P.underlying u = some d ∧ ∀ k, d ≠ .int k := by
  unfold known at hu
  unfold tint at hi
  cases hg : X.ty.get u with
  | none => rw [hg] at hu; cases hu
  | some i =>
   obtain ⟨j, hj, rfl⟩ := hX.info hg
   rw [hg] at hu hi
   obtain ⟨d, hd⟩ := Option.isSome_iff_exists.1 (show (P.underlying u).isSome = true from hu)
   refine ⟨d, hd, fun k e => ?_⟩
   simp [tiOf, intIn, hd, e] at hi
 exact lands_appendG hX r hq hx hys hs2
  (fun hut hS hz b n1 c1 hin hst hst0 => run_append_in t u ty _ hut hud hnd hS b n1 c1 a2 ys.length c2 (flat vs ys.length) (hfst _ hz _ (.inl rfl)) hin hst hst0)
  (fun hut hj hz0 hz b n1 c1 olds h1 hout hlim h63 => run_append_out t u ty _ hut hud hnd hj hz0 b n1 c1 a2 ys.length c2 olds (flat vs ys.length) h1 (hfst _ hz _ (.inr rfl)) hout hlim h63) ho
theorem zeros_cells (v : Value) (n : Nat) : Builtin.zeroCells #[v] n = (List.replicate n v).toArray := by
 apply Array.ext
 ·simp [Builtin.zeroCells]
 ·intro i h1 h2
  simp [Builtin.zeroCells, Nat.mod_one]
theorem flat_const {v : Value} (hv : v.cells = #[v]) : ∀ n, flat (fun _ => v) n = List.replicate n v
 | 0 => by simp [flat]
 | n + 1 => by rw [flat_succ, flat_const hv n, hv, List.replicate_succ']
theorem run_zeros_in (t u ty e : TypeId) {k kk : IntKind} {i : TypeInfo} {z : Value} (ht : P.underlying t = some (.slice e)) (hu : P.underlying u = some (.int k)) (hi : P.info? e = some i) (hz : i.zero = some z) (hzc : z.cells = #[z]) (hsz : i.size = 1) {S : Nat} {w' : World}
  (hS : (sizeOf e).run P w = .ok S w) (b : Option Addr) (n1 c1 n : Nat) (hn : n ≤ 4096) (hb : i.bytes ≤ 4096) (hin : n1 + n ≤ c1)
  (hst : ∀ x, b = some x → (storeCells (x.add (n1 * S)) (List.replicate n z)).run P w = .ok () w') (hst0 : b = none → w' = w) :
  (Builtin.append_ #[t, u] ty #[.slice b n1 c1, .int kk n]).run P w = .ok (.slice b (n1 + n) c1) w' := by
 have hw : IntKind.i64.wrap (n : Int) = n := by
  unfold IntKind.wrap IntKind.bits IntKind.signed
  simp
  omega
 have hb1 : n * i.bytes ≤ 16777216 := Nat.le_trans (Nat.mul_le_mul hn hb) (by decide)
 have hb2 : ¬ (281474976710656 < (n : Int) * (i.bytes : Int)) := by
  have : ((n : Int) * (i.bytes : Int)) = ((n * i.bytes : Nat) : Int) := by simp
  rw [this]; omega
 have hS1 : S = 1 := by
  simp [sizeOf, typeInfo, hi, hsz] at hS
  omega
 subst hS1
 have hw0 : IntKind.i64.wrap 0 = 0 := rfl
 have hneg : ¬ ((n : Int) < 0) := by omega
 cases b with
 | none =>
  have := hst0 rfl; subst this
  by_cases h0 : n = 0
  ·subst h0
   simp [Builtin.append_, run_underlying ht, run_underlying hu, hS, asInt, asIntOf, typeInfo, hi, hw0, (show n1 ≤ c1 by omega)]
  ·simp [Builtin.append_, run_underlying ht, run_underlying hu, hS, asInt, asIntOf, typeInfo, hi, hw, hneg, hb2, hin, h0, zeroValue, hz, hzc, zeros_cells]
 | some x =>
  have hst := hst x rfl
  rw [Nat.mul_one] at hst
  by_cases h0 : n = 0
  ·subst h0
   simp at hst
   simp [Builtin.append_, run_underlying ht, run_underlying hu, hS, asInt, asIntOf, typeInfo, hi, hw0, (show n1 ≤ c1 by omega), hst]
  ·simp [Builtin.append_, run_underlying ht, run_underlying hu, hS, asInt, asIntOf, typeInfo, hi, hw, hneg, hb2, hin, h0, zeroValue, hz, hzc, zeros_cells, hst]
theorem run_zeros_out (t u ty e : TypeId) {k kk : IntKind} {i : TypeInfo} {z : Value} (ht : P.underlying t = some (.slice e)) (hu : P.underlying u = some (.int k)) (hi : P.info? e = some i) (hz : i.zero = some z) (hzc : z.cells = #[z]) (hsz : i.size = 1)
  (b : Option Addr) (n1 c1 n : Nat) (olds : List Value) (hn : n ≤ 4096) (hb : i.bytes ≤ 4096)
  (ho : (Builtin.firstCells i.size n1 (.slice b n1 c1)).run P w.drew = .ok olds.toArray w.drew) (hout : c1 < n1 + n) (hfit : (n1 + n) * i.bytes ≤ 140737488355328) (h63 : n1 + n ≤ 140737488355328) :
  (Builtin.append_ #[t, u] ty #[.slice b n1 c1, .int kk n]).run P w =
   .ok (.slice (some ⟨w.heap.size, 0, none⟩) (n1 + n) (grownCap w (n1 + n) c1 e))
    (w.drew.alloc (.cells (olds.toArray ++ (List.replicate n z).toArray ++ Builtin.zeroCells z.cells (grownCap w (n1 + n) c1 e - (n1 + n))) e)) := by
 have hnc : ¬ (n1 + n ≤ c1) := by omega
 have h48 := growslice_fits (bytes := i.bytes) hout hfit
 have h48' : ¬ (281474976710656 < Builtin.nextslicecap (n1 + n) c1 * i.bytes) := by omega
 have h63' : ¬ (9223372036854775807 < ((n1 : Int) + (n : Int))) := by omega
 have hw : IntKind.i64.wrap (n : Int) = n := by
  unfold IntKind.wrap IntKind.bits IntKind.signed
  simp
  omega
 have hb1 : n * i.bytes ≤ 16777216 := Nat.le_trans (Nat.mul_le_mul hn hb) (by decide)
 have hb2 : ¬ (281474976710656 < (n : Int) * (i.bytes : Int)) := by
  have : ((n : Int) * (i.bytes : Int)) = ((n * i.bytes : Nat) : Int) := by simp
  rw [this]; omega
 have e2 := zeros_cells z
 rw [hsz] at ho
 have hw0 : IntKind.i64.wrap 0 = 0 := rfl
 have hneg : ¬ ((n : Int) < 0) := by omega
 by_cases h0 : n = 0
 ·subst h0
  simp only [Nat.add_zero] at hnc h48' hout
  have h63'' : ¬ (9223372036854775807 < (n1 : Int)) := by omega
  have hsz1 : i.size = 1 := hsz
  simp [Builtin.append_, run_underlying ht, run_underlying hu, sizeOf, typeInfo, zeroValue, hi, hz, asInt, asIntOf, hw0, hnc, h63'', h48', Question.forced, ho, newRow, grownCap, hzc, hsz1, e2]
 ·simp [Builtin.append_, run_underlying ht, run_underlying hu, sizeOf, typeInfo, zeroValue, hi, hz, asInt, asIntOf, hw, hneg, hb2, hnc, h63', h48', Question.forced, ho, newRow, grownCap, hzc, hsz, e2, h0]
include hX in
theorem lands_append (r : Rel C base h w0 w) (hq : FreeT C h p.2) {t u ty : TypeId} {x y : AV} {xv yv : Value} (hx : Rv C x xv) (hy : Rv C y yv) (hu : known X u = true) (hi : (tint X u).isNone = true)
  {z : AV} {h' : Heap} (ho : appendAV X t p.2 h x y = some (z, h')) :
  Lands P C base h p w0 (do pure (.value (← Builtin.append_ #[t, u] ty #[xv, yv]))) w z h' := by
 have hyl : ∃ tag2 sz2 ys, y = .lst tag2 sz2 ys := by
  unfold appendAV at ho
  split at ho
  ·split at ho
   ·exact ⟨_, _, _, rfl⟩
   ·cases ho
  ·cases ho
 obtain ⟨tag2, sz2, ys, rfl⟩ := hyl
 obtain ⟨a2, c2, vs, rfl, hcap2, ht2, hys, hs2, hr2⟩ := lst_inv hy
 refine lands_append' hX r hq hx hys hs2 (fun S hS w2 hw2 => ?_) hu hi ho
 obtain ⟨hs2', hr2'⟩ := row_resize hs2 hr2 hS
 rcases hw2 with rfl | rfl
 ·exact run_first hs2' hr2' fun b o v hv => r.known b o v hv
 ·exact run_first hs2' hr2' fun b o v hv => r.known b o v hv
end
end
section
open Go.RowKit
section
variable {P : Program} {X : Tab} (hX : Fits P X) {C : Ctx} {base : Nat} {h : Heap} {p : Nat × Nat} {w0 w : World}
theorem foldl_set (off : Nat) : ∀ (vs : List Value) (k : Nat) (cells : Array Value), off + k + vs.length ≤ cells.size →
  ((vs.zipIdx k).foldl (fun cs (x : Value × Nat) => cs.setIfInBounds (off + x.2) x.1) cells).toList = cells.toList.take (off + k) ++ vs ++ cells.toList.drop (off + k + vs.length)
 | [], k, cells, _ => by simp
 | v :: vs, k, cells, hl => by
  simp only [List.length_cons] at hl
  rw [List.zipIdx_cons, List.foldl_cons, foldl_set off vs (k + 1) _ (by simp; omega)]
  have hlt : off + k < cells.toList.length := by simp; omega
  have h1 : (cells.setIfInBounds (off + k) v).toList = cells.toList.set (off + k) v := by simp
  simp only [h1, List.length_cons]
  have e1 : (cells.toList.set (off + k) v).take (off + (k + 1)) = cells.toList.take (off + k) ++ [v] := by
   rw [← Nat.add_assoc, List.take_set, List.take_succ_eq_append_getElem hlt, List.set_append_right _ _ (by simp; omega)]
   simp [Nat.min_eq_left (show off + k ≤ cells.size by omega)]
  have e2 : (cells.toList.set (off + k) v).drop (off + (k + 1) + vs.length) = cells.toList.drop (off + k + (vs.length + 1)) := by
   rw [List.drop_set_of_lt (by omega)]
   congr 1; omega
  rw [e1, e2]
  simp
theorem fill_step (place : Nat → Option (Nat × Nat)) {i off size : Nat} {v : Value} {cells : Array Value} {rest : List (Nat × Value)} (hp : place i = some (off, size)) (hs : v.cells.size = size) (hl : off + size ≤ cells.size) :
  Instr.fill place cells ((i, v) :: rest) = Instr.fill place (cells.toList.take off ++ v.cells.toList ++ cells.toList.drop (off + size)).toArray rest := by
 rw [Instr.fill, hp]
 simp only
 rw [if_neg (by simp [hs]; omega)]
 congr 1
 apply Array.ext'
 have := foldl_set off v.cells.toList 0 cells (by simp [hs]; omega)
 simp only [Nat.add_zero, Array.length_toList, hs] at this
 simp only
 rw [← this]
 congr 1
 rw [← Array.foldl_toList]
 congr 1
 simp
theorem fill_rv (place : Nat → Option (Nat × Nat)) : ∀ (ps : List (Nat × Nat × AV)) (qs : List (Nat × Value)) (c : List AV) (cells : Array Value) (out : List AV),
  ps.length = qs.length → (∀ (k : Nat) (x : Nat × Nat × AV) (y : Nat × Value), ps[k]? = some x → qs[k]? = some y → (place y.1 = some (x.1, x.2.1) ∨ x.2.1 = 0) ∧ Rv C x.2.2 y.2) → RvL C c cells.toList → fillAV c ps = some out →
  ∃ cs', Instr.fill place cells qs = some cs' ∧ RvL C out cs'.toList
 | [], [], c, cells, out, _, _, hc, ho => by
  simp only [fillAV, Option.some.injEq] at ho; subst ho
  exact ⟨cells, rfl, hc⟩
 | [], _ :: _, _, _, _, hl, _, _, _ => by simp at hl
 | _ :: _, [], _, _, _, hl, _, _, _ => by simp at hl
 | (off, size, v) :: ps, (i, u) :: qs, c, cells, out, hl, hr, hc, ho => by
  simp only [fillAV] at ho
  split at ho
  ·rename_i hcond
   obtain ⟨h1, hpos, h2, h3⟩ := hcond
   obtain ⟨hp, hv⟩ := hr 0 _ _ rfl rfl
   simp only at hp hv
   have hp : place i = some (off, size) := by
    rcases hp with hp | hp
    ·exact hp
    ·omega
   have hcv := hv.cells h3
   have hsz : u.cells.size = size := by have := hcv.1; simp at this; omega
   have hcl : cells.size = c.length := by simpa using hc.1
   rw [fill_step place hp hsz (by omega)]
   have hsp := hc.splice hcv (off := off) (by rw [h1]; exact h2)
   have hul : u.cells.toList.length = size := by simp [hsz]
   rw [hul] at hsp
   exact fill_rv place ps qs _ _ out (by simpa using hl) (fun k x y hx hy => hr (k + 1) x y (by simpa using hx) (by simpa using hy)) (by simpa using hsp) ho
  ·cases ho
theorem rowParts_get {fr : Frm} {S : Nat} : ∀ (ps : List (Nat × Operand)), (rowParts S fr ps).length = ps.length ∧ ∀ (k : Nat) (x : Nat × Operand), ps[k]? = some x → (rowParts S fr ps)[k]? = some (x.1 * S, S, evo fr x.2)
 | [] => ⟨rfl, fun k x hx => by simp at hx⟩
 | (i, y) :: ps => by
  obtain ⟨h1, h2⟩ := rowParts_get (fr := fr) (S := S) ps
  refine ⟨by simp [rowParts, h1], fun k x hx => ?_⟩
  cases k with
  | zero => simp at hx; subst hx; simp [rowParts]
  | succ k => simp only [List.getElem?_cons_succ] at hx; simpa [rowParts] using h2 k x hx
theorem fieldParts_get {fr : Frm} {t : TypeId} : ∀ (ps : List (Nat × Operand)) (qs : List (Nat × Nat × AV)), fieldParts X t fr ps = some qs → qs.length = ps.length ∧ ∀ (k : Nat) (x : Nat × Operand), ps[k]? = some x → ∃ off size ag, tfield X t x.1 = some (off, size, ag) ∧ qs[k]? = some (off, size, evo fr x.2)
 | [], qs, h => by simp only [fieldParts, Option.some.injEq] at h; subst h; exact ⟨rfl, fun k x hx => by simp at hx⟩
 | (i, y) :: ps, qs, h => by
  simp only [fieldParts] at h
  split at h
  ·rename_i off size ag rs h1 h2
   simp only [Option.some.injEq] at h; subst h
   obtain ⟨a, b⟩ := fieldParts_get ps rs h2
   refine ⟨by simp [a], fun k x hx => ?_⟩
   cases k with
   | zero => simp at hx; subst hx; exact ⟨off, size, ag, h1, by simp⟩
   | succ k => simp only [List.getElem?_cons_succ] at hx; simpa using b k x hx
  ·cases h
theorem places_of : ∀ (fs : List Field), fs.all (fun f => (P.info? f.type).isSome) = true → fs.mapM (fun f => (P.info? f.type).map fun i => (f.offset, i.size)) = some (fs.map fun f => (f.offset, sizeIn P f.type))
 | [], _ => rfl
 | f :: fs, h => by
  simp only [List.all_cons, Bool.and_eq_true] at h
  obtain ⟨i, hi⟩ := Option.isSome_iff_exists.1 h.1
  rw [List.mapM_cons, places_of fs h.2]
  simp [hi, sizeIn]
include hX in
theorem lands_build (r : Rel C base h w0 w) {n : Nat} {fr : Frm} {a : Act} (hf : RF C n fr a.tmps) {t : TypeId} {parts : Array (Nat × Operand)} {z : AV} (ho : buildAV X t fr parts.toList = some z) :
  Lands P C base h p w0 (do pure (.value (← Instr.build t (parts.map fun (i, x) => (i, a.eval x))))) w z h := by
 unfold buildAV at ho
 split at ho
 ·rename_i zc hz
  obtain ⟨j, v, hj, hjz, hov, _⟩ := hX.zero hz
  obtain ⟨cs, rfl⟩ : ∃ cs, v = .agg cs := by
   have hrv := ofValue_rv (C := C) hov
   cases hrv with
   | agg _ vs h1 h2 => exact ⟨_, rfl⟩
  have hcs : RvL C zc cs.toList := by
   have := Rv.cells (C := C) (ofValue_rv hov) (ofValue_var hov)
   simpa [AV.cells, Value.cells] using this
  have hqs : ∀ (k : Nat) (y : Nat × Value), (parts.map fun (i, x) => (i, a.eval x)).toList[k]? = some y → ∃ x, parts.toList[k]? = some (y.1, x) ∧ y.2 = a.eval x := fun k y hy => by
   rw [Array.toList_map, List.getElem?_map] at hy
   cases hx : parts.toList[k]? with
   | none => rw [hx] at hy; cases hy
   | some q => rw [hx] at hy; simp only [Option.map_some, Option.some.injEq] at hy; subst hy; exact ⟨q.2, rfl, rfl⟩
  have fin : ∀ {out : List AV} {cs' : Array Value}, P.built t (parts.map fun (i, x) => (i, a.eval x)).toList = some cs' → RvL C out cs'.toList → z = .agg out →
    Lands P C base h p w0 (do pure (.value (← Instr.build t (parts.map fun (i, x) => (i, a.eval x))))) w z h := fun hb hr e => by
   subst e
   refine lands_same r (u := .agg _) (by simp only [Sem.run_bind, run_build w t _ _ hb, Result.andThen_ok]; rfl) ?_
   have := Rv.agg (C := C) _ _ hr.1 hr.2
   simpa using this
  split at ho
  ·rename_i len e hrow
   have hu := hX.row_array hrow
   split at ho
   ·rename_i hS
    obtain ⟨je, hje, hjs, _⟩ := hX.size_pos hS
    cases hfa : fillAV zc (rowParts (tsz X e) fr parts.toList) with
    | none => rw [hfa] at ho; cases ho
    | some out =>
     rw [hfa] at ho; cases ho
     obtain ⟨g1, g2⟩ := rowParts_get (fr := fr) (S := tsz X e) parts.toList
     obtain ⟨cs', h1, h2⟩ := fill_rv (C := C) (fun i => some (i * je.size, je.size)) (rowParts (tsz X e) fr parts.toList) (parts.map fun (i, x) => (i, a.eval x)).toList zc cs out (by rw [g1]; simp) (fun k x y hx hy => by
      obtain ⟨q, hq, e2⟩ := hqs k y hy
      have := g2 k _ hq
      rw [hx] at this; cases this
      exact ⟨.inl (by rw [hjs]), by rw [e2]; exact evo_rv hf q⟩) hcs hfa
     refine fin ?_ h2 rfl
     unfold Program.built
     simp only [hj, hu, hjz, hje]
     exact h1
   ·cases ho
  ·rename_i hrow
   split at ho
   ·rename_i hfok
    split at ho
    ·rename_i ps hps
     cases hfa : fillAV zc ps with
     | none => rw [hfa] at ho; cases ho
     | some out =>
      rw [hfa] at ho; cases ho
      obtain ⟨g1, g2⟩ := fieldParts_get parts.toList ps hps
      have hstruct : ∃ fs, P.underlying t = some (.struct fs) ∧ fs.toList.all (fun f => (P.info? f.type).isSome) = true := by
       unfold tfok at hfok
       cases hg : X.ty.get t with
       | none => rw [hg] at hfok; cases hfok
       | some i =>
        obtain ⟨j', hj', rfl⟩ := hX.info hg
        rw [hg] at hfok
        simp only [tiOf] at hfok
        split at hfok
        ·rename_i fs hfs; exact ⟨fs, hfs, hfok⟩
        ·cases hfok
      obtain ⟨fs, hu, hall⟩ := hstruct
      have hpl := places_of (P := P) fs.toList hall
      obtain ⟨cs', h1, h2⟩ := fill_rv (C := C) (fun i => (fs.toList.map fun f => (f.offset, sizeIn P f.type)).toArray[i]?) ps (parts.map fun (i, x) => (i, a.eval x)).toList zc cs out (by rw [g1]; simp) (fun k x y hx hy => by
       obtain ⟨q, hq, e2⟩ := hqs k y hy
       obtain ⟨off, size, ag, ht, hk⟩ := g2 k _ hq
       rw [hx] at hk; cases hk
       refine ⟨?_, by rw [e2]; exact evo_rv hf q⟩
       obtain ⟨fs', fd, hu', hfd, rfl, hsz, _⟩ := hX.field ht
       rw [hu] at hu'; cases hu'
       split at hsz
       ·left
        have : fs.toList[y.1]? = some fd := by simpa using hfd
        simp [this, hsz]
       ·right; exact hsz.symm) hcs hfa
      refine fin ?_ h2 rfl
      unfold Program.built
      simp only [hj, hu, hjz, hpl]
      exact h1
    ·cases ho
   ·cases ho
  ·cases ho
 ·cases ho
theorem fill_lit {S : Nat} {n : Nat} {fr : Frm} {a : Act} (hf : RF C n fr a.tmps) : ∀ (parts : List (Nat × Operand)) (i : Nat) (xs : List AV) (cells : Array Value), litParts S fr i parts = some xs → cells.size = (i + parts.length) * S →
  ∃ vs : List Value, RvL C xs vs ∧ (∀ v ∈ vs, v.cells.size = S) ∧ xs.length = parts.length ∧
   Instr.fill (fun i => some (i * S, S)) cells (parts.map fun (i, x) => (i, a.eval x)) = some (cells.toList.take (i * S) ++ vs.flatMap fun v => v.cells.toList).toArray
 | [], i, xs, cells, ho, hl => by
  simp only [litParts, Option.some.injEq] at ho; subst ho
  refine ⟨[], ⟨rfl, fun i x hx => by simp at hx⟩, by simp, rfl, ?_⟩
  have : cells.toList.take (i * S) = cells.toList := List.take_of_length_le (by simp [hl])
  simp [Instr.fill, this]
 | (j, x) :: parts, i, xs, cells, ho, hl => by
  simp only [litParts] at ho
  split at ho
  ·rename_i hc
   obtain ⟨rfl, hvar, hsz⟩ := hc
   split at ho
   ·rename_i ys hys
    simp only [Option.some.injEq] at ho; subst ho
    have hv := evo_rv hf x
    have hcv := hv.cells hvar
    have hs : (a.eval x).cells.size = S := by have := hcv.1; simp at this; omega
    simp only [List.length_cons] at hl
    have hle : j * S + S ≤ cells.size := by rw [hl, Nat.add_mul, Nat.add_mul]; omega
    have hl' : (cells.toList.take (j * S) ++ (a.eval x).cells.toList ++ cells.toList.drop (j * S + S)).toArray.size = (j + 1 + parts.length) * S := by
     simp only [List.size_toArray, List.length_append, List.length_take, List.length_drop, Array.length_toList, hs]
     rw [Nat.min_eq_left (by omega)]
     have : (j + 1 + parts.length) * S = cells.size := by rw [hl]; congr 1; omega
     omega
    obtain ⟨vs, h1, h2, h3, h4⟩ := fill_lit hf parts (j + 1) ys _ hys hl'
    refine ⟨a.eval x :: vs, ⟨by simp [h1.1], fun k y hy => ?_⟩, by simpa using ⟨hs, h2⟩, by simp [h3], ?_⟩
    ·cases k with
     | zero => simp at hy; subst hy; simpa using hv
     | succ k => simp only [List.getElem?_cons_succ] at hy; simpa using h1.2 k y hy
    ·rw [List.map_cons, fill_step _ rfl hs hle, h4]
     congr 2
     have e : (j + 1) * S = (cells.toList.take (j * S) ++ (a.eval x).cells.toList).length := by
      simp only [List.length_append, List.length_take, Array.length_toList, hs, Nat.add_mul]; omega
     simp only [List.flatMap_cons]
     rw [e, List.take_left, List.append_assoc]
   ·cases ho
  ·cases ho
theorem litParts_length {S : Nat} {fr : Frm} : ∀ (parts : List (Nat × Operand)) (i : Nat) (xs : List AV), litParts S fr i parts = some xs → xs.length = parts.length
 | [], i, xs, h => by simp only [litParts, Option.some.injEq] at h; subst h; rfl
 | (j, x) :: parts, i, xs, h => by
  simp only [litParts] at h
  split at h
  ·split at h
   ·rename_i ys hys
    simp only [Option.some.injEq] at h; subst h
    simp [litParts_length parts _ ys hys]
   ·cases h
  ·cases h
theorem flat_list (vs : List Value) : flat (fun i => vs.getD i undef) vs.length = vs.flatMap fun v => v.cells.toList := by
 have : (List.range vs.length).map (fun i => vs.getD i undef) = vs := by
  apply List.ext_getElem
  ·simp
  ·intro i h1 h2
   simp at h1
   simp [List.getD_eq_getElem?_getD, h1]
 unfold flat
 conv => rhs; rw [← this]
 rw [List.flatMap_map]
include hX in
theorem Fits.zeroFits {e : TypeId} (hzf : zeroFits X e = true) : ∃ j zc, P.info? e = some j ∧ j.zero = some zc ∧ zc.cells.size = tsz X e ∧ j.size = tsz X e := by
 unfold Proofs.YthkpjbgadkkeeaaGreat.zeroFits at hzf
 split at hzf
 ·rename_i z0 hz0
  obtain ⟨j', v', hj', hv', hov, hjs⟩ := hX.zero hz0
  simp only [Bool.and_eq_true, beq_iff_eq] at hzf
  have hcells := Rv.cells (C := ⟨fun _ => false, fun _ => false, fun _ => 0, fun _ => false, fun _ => none, fun _ => 0, fun _ => 0, fun _ _ => none, fun _ => [], fun _ => false, 0⟩) (ofValue_rv hov) hzf.2
  refine ⟨j', v', hj', hv', ?_, hjs⟩
  rw [← hzf.1, ← hcells.1]; simp
 ·cases hzf
include hX in
theorem lands_buildSlice (r : Rel C base h w0 w) {n : Nat} {fr : Frm} {a : Act} (hf : RF C n fr a.tmps) {t : TypeId} {len : Nat} {parts : Array (Nat × Operand)} {z : AV} {h' : Heap} (ho : opBuildSlice X t len fr parts.toList h = some (z, h')) :
  Lands P C base h p w0 (do pure (.value (← Instr.buildSlice t len (parts.map fun (i, x) => (i, a.eval x))))) w z h' := by
 unfold opBuildSlice at ho
 split at ho
 ·rename_i e hrow
  have hu := hX.row_slice hrow
  split at ho
  ·rename_i xs hxs
   split at ho
   ·rename_i hc
    obtain ⟨hlen, hS, hlim, hzf⟩ := hc
    cases ho
    obtain ⟨j, zc, hj, hjz, hzs, hjs⟩ := hX.zeroFits hzf
    obtain ⟨vs, h1, h2, h3, h4⟩ := fill_lit hf parts.toList 0 xs ((Array.range (len * tsz X e)).map fun i => (if len * tsz X e = 0 then #[] else zc.cells)[i % (if len * tsz X e = 0 then #[] else zc.cells : Array Value).size]!) hxs (by have := litParts_length _ _ _ hxs; rw [hlen] at this; simp [this])
    have hsz : (sizeOf e).run P w = .ok (tsz X e) w := hX.run_sizeOf hS w
    have hlim' : ¬ 16777216 < len * tsz X e := by omega
    have hrun : (Instr.buildSlice t len (parts.map fun (i, x) => (i, a.eval x))).run P w = .ok (.slice (some ⟨w.heap.size, 0, none⟩) len len) (w.alloc (.cells (vs.flatMap fun v => v.cells.toList).toArray e)) := by
     by_cases h0 : len * tsz X e = 0
     ·rw [if_pos h0] at h4
      simp only [Nat.zero_mul, List.take_zero, List.nil_append] at h4
      simp [Instr.buildSlice, run_underlying hu, hsz, h0, newRow] at h4 ⊢
      rw [h4]
      simp
     ·rw [if_neg h0] at h4
      simp only [Nat.zero_mul, List.take_zero, List.nil_append] at h4
      simp [Instr.buildSlice, run_underlying hu, hsz, hlim', h0, newRow, zeroValue, typeInfo, hj, hjz] at h4 ⊢
      rw [h4]
      simp
    obtain ⟨hle, r'⟩ := r.learn_new w (Below.refl _ _) rfl (vs.flatMap fun v => v.cells.toList).toArray e (fun o => (vs.flatMap fun v => v.cells.toList)[o]?) (fun o v hv => by simpa using hv)
    have hvl : vs.length = xs.length := h1.1
    refine ⟨_, _, _, .slice (some ⟨w.heap.size, 0, none⟩) len len, by simp [hrun], .inl rfl, ?_, hle, r', fun _ _ _ => rfl, fun _ _ _ => rfl⟩
    have hjn := rv_joined (C' := C.learn w.heap.size fun o => (vs.flatMap fun v => v.cells.toList)[o]?) (t := 1) (S := tsz X e) (cap' := xs.length) (xs := xs) (ys := []) (us := fun i => vs.getD i undef) (vs := fun _ => undef) (ad := some ⟨w.heap.size, 0, none⟩)
     (fun i x hx => (h1.2 i x hx).mono hle) (fun i x hx => by simp at hx) (fun i hi => by
      have hi' : i < vs.length := by rw [hvl]; exact hi
      have : vs.getD i undef = vs[i] := by simp [List.getD_eq_getElem?_getD, hi']
      show (vs.getD i undef).cells.size = _
      rw [this]; exact h2 _ (List.getElem_mem hi')) (fun i hi => by simp at hi) (by simp) ⟨by simp, fun _ b o e => by cases e; exact Nat.le_trans r.bs r.size⟩ (fun o ho => ⟨_, 0, rfl, by
      rw [Nat.zero_add]
      have : flat (fun i => vs.getD i undef) xs.length = vs.flatMap fun v => v.cells.toList := by rw [← hvl]; exact flat_list vs
      rw [this]
      simp [Ctx.learn, flat]⟩) hS
    simp only [List.append_nil, List.length_nil, Nat.add_zero] at hjn
    rw [hlen] at hjn
    exact hjn
   ·cases ho
  ·cases ho
 ·cases ho
end
end
end Go.Proofs.YthkpjbgadkkeeaaGreat
