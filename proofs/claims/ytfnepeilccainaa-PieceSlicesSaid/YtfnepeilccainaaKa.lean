/- Proved here: a part of the evaluator for the model's functions, and that a call does what it says; the parts are told one by one. No condition. -/
import GoSem.Claim
import Derived.KernelRfl
import Derived.Orders
import Derived.Deep.MidRow
import Derived.Laws.CopyRow
import Derived.Laws.NewBlocks
import Derived.Below
/- Proved here: nothing yet: the definitions of an abstract evaluator of the program's code (its soundness is proved in the texts that follow). No condition. -/
namespace Go.Proofs.Ytfnepeilccainaa.Den
open Go
set_option linter.unusedVariables false
set_option linter.unusedSimpArgs false

/-- An abstract value: data, or a place in the frame's own store. -/
inductive AV where
  | u
  | i (k : IntKind) (n : Int)
  | b (x : Bool)
  | s (x : ByteArray)
  | g (fs : List AV)
  | t (vs : List AV)
  | l (e : TypeId) (xs : List AV)
  | w (e : TypeId) (id : Nat)
  | r (e : TypeId) (id off len : Nat)
  | p (id : Nat) (path : List Nat)
  | q (id idx : Nat) (path : List Nat)
  | at (T : TypeId) (a : AV)
  | z (kind : Nat)
  | fn (f : FuncId) (first cap : List AV)
instance : Inhabited AV := ⟨.u⟩
/-- A block of the frame's own. -/
inductive Blk where
  | dead
  | obj (T : TypeId) (a : AV)
  | arr (e : TypeId) (xs : List AV)
instance : Inhabited Blk := ⟨.dead⟩
structure X where
  env : List AV
  st : List Blk
def AV.int : AV → Int
  | .i _ n => n
  | _ => 0
def AV.bool : AV → Bool
  | .b x => x
  | _ => false
def AV.str : AV → ByteArray
  | .s x => x
  | _ => ⟨#[]⟩
def AV.list : AV → List AV
  | .l _ xs => xs
  | _ => []
def AV.fld (a : AV) (j : Nat) : AV := match a with
  | .g fs => fs.getD j .u
  | _ => .u
def AV.pt : AV → AV
  | .at _ a => a
  | _ => .u
def AV.tup (a : AV) (j : Nat) : AV := match a with
  | .t vs => vs.getD j .u
  | _ => .u
/-- How a program is read: which temporaries are kept where a region begins (and which nil slices become own ones), how parameters and results are handed over, what is known of functions by contract. -/
structure Cfg where
  P : Program
  /-- function, region: kept temporaries, each with how (0 data, 1 an object of its own, 2 a slice of its own, 10 + k what the k-th is) and its type -/
  keep : Nat → Nat → Option (List (Nat × Nat × TypeId))
  /-- of a function: its parameters (0 data, 1 by reference, 2 handed over, 3 lent for reading), its results (1: the caller's own) -/
  pm : Nat → List Nat
  rm : Nat → List Nat
  /-- of a struct's type: the fields that are slices of its own, where it is handed over by reference -/
  own : Nat → List Nat
  prim : Nat → Option (List AV → Option (List AV))
  /-- functions whose calls are told by what they do to the caller's store (a slot is the first of four that are free) -/
  primS : Nat → Option (List Blk → Nat → List AV → Option (Bool × AV × List Blk × List Nat)) := fun _ => none
  /-- functions whose bodies are run on the caller's own store (where the arguments are such) -/
  inl : Nat → Option (List AV → Bool) := fun _ => none
  /-- functions without a body: 1 an atomic load, 2 a store, 3 an addition, 4 what is handed over is handed back, 5 compare and swap; of which kind of number -/
  ext : Nat → Option (Nat × IntKind) := fun _ => none
section
variable (C : Cfg)
def Cfg.und (T : TypeId) : Option TypeDesc := if T < C.P.types.size then C.P.underlying T else none
/-- Data, spelt by its type. -/
def view : Nat → TypeId → AV → AV
  | 0, _, _ => .u
  | d + 1, T, a => match C.und T with
    | some (.int k) => .i k a.int
    | some .bool => .b a.bool
    | some .string => .s a.str
    | some (.slice e) => .l e a.list
    | some (.struct fs) => .g (fs.toList.zipIdx.map fun f => view d f.1.type (a.fld f.2))
    | some (.array n e) => .g ((List.range n).map fun j => view d e (a.fld j))
    | _ => .u
def zero : Nat → TypeId → AV
  | 0, _ => .u
  | d + 1, T => match C.und T with
    | some (.int k) => .i k 0
    | some .bool => .b false
    | some .string => .s ⟨#[]⟩
    | some (.slice _) => .z 1
    | some (.pointer _) => .z 0
    | some (.func ..) => .z 2
    | some (.map ..) => .z 3
    | some (.interface _) => .z 4
    | some (.struct fs) => .g (fs.toList.map fun f => zero d f.type)
    | some (.array n e) => .g (List.replicate n (zero d e))
    | _ => .u
/-- A slice's elements. -/
def elems (S : List Blk) : AV → Option (List AV)
  | .l _ xs => some xs
  | .z 1 => some []
  | .z 8 => some []
  | .w _ id => match S.getD id .dead with
    | .arr _ xs => some xs
    | _ => none
  | .r _ id off len => match S.getD id .dead with
    | .arr _ xs => some ((xs.drop off).take len)
    | _ => none
  | _ => none
/-- A slice's element type, where it is told. -/
def elT : AV → Option TypeId
  | .l e _ => some e
  | .w e _ => some e
  | .r e _ _ _ => some e
  | _ => none
def ownId : AV → List Nat
  | .w _ id => [id]
  | .r _ id _ _ => [id]
  | .p id _ => [id]
  | _ => []
def fzL (f : TypeId → AV → Option (AV × List Nat)) : List TypeId → List AV → Option (List AV × List Nat)
  | [], [] => some ([], [])
  | T :: Ts, a :: as => (f T a).bind fun x => (fzL f Ts as).bind fun y => some (x.1 :: y.1, x.2 ++ y.2)
  | _, _ => none
/-- Data of a value of a type; what of the store is laid open by it. -/
def fz (S : List Blk) : Nat → TypeId → AV → Option (AV × List Nat)
  | 0, _, _ => none
  | d + 1, T, a => match C.und T, a with
    | some (.int k), .i k' n => if k = k' then some (.i k n, []) else none
    | some .bool, .b x => some (.b x, [])
    | some .string, .s x => some (.s x, [])
    | some (.slice e), .l e' xs => if e = e' then some (.l e xs, []) else none
    | some (.slice e), .z 1 => some (.l e [], [])
    | some (.slice e), .w e' id => if e = e' then (elems S (.w e' id)).bind fun xs => some (.l e xs, [id]) else none
    | some (.slice e), .r e' id off len => if e = e' then (elems S (.r e' id off len)).bind fun xs => some (.l e xs, [id]) else none
    | some (.struct fs), .g as => (fzL (fz S d) (fs.toList.map (·.type)) as).bind fun x => some (.g x.1, x.2)
    | some (.array n e), .g as => (fzL (fz S d) (List.replicate n e) as).bind fun x => some (.g x.1, x.2)
    | _, _ => none
/-- Has a value the cells of a type? -/
def sh : Nat → TypeId → AV → Bool
  | 0, _, _ => false
  | d + 1, T, a => match C.und T, a with
    | some (.int k), .i k' _ => k == k'
    | some .bool, .b _ => true
    | some .string, .s _ => true
    | some (.slice e), .l e' _ => e == e'
    | some (.slice e), .w e' _ => e == e'
    | some (.slice e), .r e' _ _ _ => e == e'
    | some (.slice _), .z n => n == 1
    | some (.pointer _), .p _ _ => true
    | some (.pointer _), .q _ _ _ => true
    | some (.pointer _), .at _ _ => true
    | some (.pointer _), .z n => n == 0
    | some (.func ..), .fn _ _ _ => true
    | some (.func ..), .z n => n == 2
    | some (.struct fs), .g as => as.length == fs.size && (fs.toList.zip as).all fun q => sh d q.1.type q.2
    | some (.array n e), .g as => as.length == n && as.all fun a => sh d e a
    | _, _ => false
/-- A zero's cells. -/
def zcells : Nat → AV → Option (List Value)
  | 0, _ => none
  | d + 1, a => match a with
    | .i k n => some [.int k n]
    | .b x => some [.bool x]
    | .s x => some [.string x]
    | .z 0 => some [.pointer none]
    | .z 1 => some [.slice none 0 0]
    | .z 2 => some [.nilFunc]
    | .z 3 => some [.map none]
    | .z 4 => some [.nilIface]
    | .g fs => fs.foldr (fun a o => (zcells d a).bind fun c => o.map fun r => c ++ r) (some [])
    | _ => none
def eqV : Value → Value → Bool
  | .int k n, .int k' n' => k == k' && n == n'
  | .bool x, .bool y => x == y
  | .string x, .string y => x.data.toList == y.data.toList
  | .pointer none, .pointer none => true
  | .slice none 0 0, .slice none 0 0 => true
  | .nilFunc, .nilFunc => true
  | .map none, .map none => true
  | .nilIface, .nilIface => true
  | _, _ => false
def eqVs : List Value → List Value → Bool
  | [], [] => true
  | a :: as, b :: bs => eqV a b && eqVs as bs
  | _, _ => false
/-- Is a type's zero, as the table tells it, the evaluator's? -/
def zck (T : TypeId) : Bool := match (C.P.info? T).bind (·.zero), zcells C.P.depth (zero C C.P.depth T) with
  | some v, some cs => eqVs cs v.cells.toList && (match zero C C.P.depth T, v with | .g _, .agg _ => true | .g _, _ => false | _, .agg _ => false | _, .tuple _ => false | _, _ => true) && sh C C.P.depth T (zero C C.P.depth T)
  | _, _ => false
/-- The type at a path. -/
def pty (T : TypeId) : List Nat → Option TypeId
  | [] => some T
  | j :: path => match C.und T with
    | some (.struct fs) => match fs[j]? with
      | some f => pty f.type path
      | none => none
    | _ => none
/-- Is there a part, of one cell at least, at a path? -/
def pok (T : TypeId) (path : List Nat) : Bool := match pty C T path with
  | some T' => C.P.cellsOf T' != 0
  | none => false
def getPath (a : AV) : List Nat → AV
  | [] => a
  | j :: path => getPath (a.fld j) path
def setPath (v : AV) : AV → List Nat → AV
  | _, [] => v
  | .g fs, j :: path => .g (fs.set j (setPath v (fs.getD j .u) path))
  | a, _ => a
def constAV : Value → AV
  | .int k n => .i k n
  | .bool x => .b x
  | .string x => .s x
  | .pointer none => .z 0
  | .slice none 0 0 => .z 1
  | .nilFunc => .z 2
  | .map none => .z 3
  | .nilIface => .z 4
  | _ => .u
def ev (env : List AV) : Operand → AV
  | .tmp t => env.getD t .u
  | .const v => constAV v
  | .func f => .fn f [] []
  | .global _ => .u
/-- Is it of one cell? -/
def isOne : AV → Bool
  | .u => false
  | .g _ => false
  | .t _ => false
  | _ => true
/-- Refs to what is laid open become data. -/
def openAV (S : List Blk) (ids : List Nat) : AV → AV
  | .w e id => if ids.contains id then (match S.getD id .dead with | .arr _ xs => .l e xs | _ => .u) else .w e id
  | .r e id off len => if ids.contains id then (match S.getD id .dead with | .arr _ xs => .l e ((xs.drop off).take len) | _ => .u) else .r e id off len
  | .p id path => if ids.contains id then .u else .p id path
  | .q id idx path => if ids.contains id then .u else .q id idx path
  | a => a
def kill (ids : List Nat) (S : List Blk) : List Blk := S.zipIdx.map fun x => if ids.contains x.2 then .dead else x.1
abbrev Out := Option (List AV)
abbrev KV (α : Type) := AV → List Blk → List Nat → Option α
def cmpI (op : BinOp) (a c : Int) : Option Bool := match op with
  | .eql => some (a == c)
  | .neq => some (a != c)
  | .lss => some (decide (a < c))
  | .leq => some (decide (a ≤ c))
  | .gtr => some (decide (a > c))
  | .geq => some (decide (a ≥ c))
  | _ => none
def cmpS (op : BinOp) (x y : ByteArray) : Option Bool := match op with
  | .eql => some (x.toList == y.toList)
  | .neq => some (!(x.toList == y.toList))
  | .lss => some (Op.bytesLess x.toList y.toList)
  | .leq => some (Op.bytesLess x.toList y.toList || x.toList == y.toList)
  | .gtr => some (!(Op.bytesLess x.toList y.toList || x.toList == y.toList))
  | .geq => some (!Op.bytesLess x.toList y.toList)
  | _ => none
def eqL (f : TypeId → AV → AV → Option Bool) : List Field → List AV → List AV → Option Bool
  | [], [], [] => some true
  | fd :: fs, a :: as, c :: cs => if fd.name = "_" then none else (f fd.type a c).bind fun h => (eqL f fs as cs).bind fun r => some (h && r)
  | _, _, _ => none
def eqI (f : AV → AV → Option Bool) : List AV → List AV → Option Bool
  | [], [] => some true
  | a :: as, c :: cs => (f a c).bind fun h => (eqI f as cs).bind fun r => some (h && r)
  | _, _ => none
/-- Are values of a type alike? -/
def eqA : Nat → TypeId → AV → AV → Option Bool
  | 0, _, _, _ => none
  | d + 1, T, x, y => match C.und T, x, y with
    | some (.int _), .i _ a, .i _ c => some (a == c)
    | some .bool, .b a, .b c => some (a == c)
    | some .string, .s a, .s c => some (a.toList == c.toList)
    | some (.struct fs), .g as, .g cs => if C.P.stoodInHeld T = false then eqL (eqA d) fs.toList as cs else none
    | some (.array n e), .g as, .g cs => if n ≠ 0 then eqI (eqA d e) as cs else none
    | _, _, _ => none
/-- May values of a struct or an array be compared? -/
def eqck (T : TypeId) (x y : AV) : Bool := sh C C.P.depth T x && sh C C.P.depth T y && !C.P.eqGuardType C.P.depth T && decide (C.P.depth ≤ 10000)
/-- Is a pointer nil? -/
def nilP : AV → Option Bool
  | .p .. => some false
  | .q .. => some false
  | .at .. => some false
  | .z 0 => some true
  | _ => none
def binD {α : Type} (op : BinOp) (T : TypeId) (x y : AV) (K : AV → Option α) : Option α :=
  match x, y with
  | .i k a, .i k' c => (match op with
    | .shl => if 0 ≤ c then K (.i k (k.wrap (a * 2 ^ (min c.toNat k.bits)))) else none
    | .shr => if 0 ≤ c then K (.i k (a.fdiv (2 ^ (min c.toNat k.bits)))) else none
    | .add => if k = k' then K (.i k (k.wrap (a + c))) else none
    | .sub => if k = k' then K (.i k (k.wrap (a - c))) else none
    | .mul => if k = k' then K (.i k (k.wrap (a * c))) else none
    | .quo => if k = k' then (if c ≠ 0 then K (.i k (k.wrap (a.tdiv c))) else none) else none
    | .rem => if k = k' then (if c ≠ 0 then K (.i k (a.tmod c)) else none) else none
    | .and => if k = k' then K (.i k (k.wrap ((BitVec.ofInt k.bits a &&& BitVec.ofInt k.bits c).toNat))) else none
    | .or => if k = k' then K (.i k (k.wrap ((BitVec.ofInt k.bits a ||| BitVec.ofInt k.bits c).toNat))) else none
    | .xor => if k = k' then K (.i k (k.wrap ((BitVec.ofInt k.bits a ^^^ BitVec.ofInt k.bits c).toNat))) else none
    | .andNot => if k = k' then K (.i k (k.wrap ((BitVec.ofInt k.bits a &&& ~~~ BitVec.ofInt k.bits c).toNat))) else none
    | op => if k = k' then (match cmpI op a c with | some h => K (.b h) | none => none) else none)
  | .s a, .s c => (match op with
    | .add => if a.size + c.size ≤ 9223372036854775807 then K (.s (a ++ c)) else none
    | op => match cmpS op a c with | some h => K (.b h) | none => none)
  | .b a, .b c => (match C.und T, op with
    | some .bool, .eql => K (.b (a == c))
    | some .bool, .neq => K (.b (!(a == c)))
    | _, _ => none)
  | .g as, .g cs => if eqck C T (.g as) (.g cs) = true then (match eqA C C.P.depth T (.g as) (.g cs), op with
    | some h, .eql => K (.b h)
    | some h, .neq => K (.b (!h))
    | _, _ => none) else none
  | .p i pa, .p j pb => if i = j ∧ pa = pb then (match C.und T, op with
    | some (.pointer e), .eql => if (C.und e).isSome = true then K (.b true) else none
    | some (.pointer e), .neq => if (C.und e).isSome = true then K (.b false) else none
    | _, _ => none) else none
  | a, .z 0 => (match C.und T, nilP a, op with
    | some (.pointer _), some h, .eql => K (.b h)
    | some (.pointer _), some h, .neq => K (.b (!h))
    | _, _, _ => none)
  | _, _ => none
def unD {α : Type} (op : UnOp) (x : AV) (K : AV → Option α) : Option α :=
  match op, x with
  | .neg, .i k n => K (.i k (k.wrap (0 - n)))
  | .not, .b x => K (.b !x)
  | .xor, .i k n => K (.i k (k.wrap ((BitVec.ofInt k.bits (if k.signed then -1 else k.max) ^^^ BitVec.ofInt k.bits n).toNat)))
  | _, _ => none
/-- A slice of the caller's, cut. -/
def cut3 {α : Type} (len : Nat) (lo hi : Option AV) (K : Nat → Nat → Option α) : Option α :=
  match lo, hi with
  | none, none => K 0 len
  | some (.i _ l), none => if 0 ≤ l ∧ l ≤ (len : Int) then K l.toNat len else none
  | none, some (.i _ h) => if 0 ≤ h ∧ h ≤ (len : Int) then K 0 h.toNat else none
  | some (.i _ l), some (.i _ h) => if 0 ≤ h ∧ h ≤ (len : Int) then (if 0 ≤ l ∧ l ≤ h then K l.toNat h.toNat else none) else none
  | _, _ => none
def isU8 (e : TypeId) : Bool := match C.und e with
  | some (.int .u8) => true
  | _ => false
/-- The bytes of a slice. -/
def bytesOf (xs : List AV) : ByteArray := (xs.map AV.int).foldl (fun r n => r.push (UInt8.ofNat n.toNat)) ByteArray.empty
/-- What is appended. -/
def appSrc (S : List Blk) (e : TypeId) (y : AV) : Option (List AV) := match y with
  | .s a => if isU8 C e = true then some (a.data.toList.map fun (c : UInt8) => AV.i .u8 (c.toNat : Int)) else none
  | y => if elT y = some e ∨ elT y = none then elems S y else none
def appKind (T : TypeId) : Bool := match C.und T with
  | some (.slice _) => true
  | some .string => true
  | _ => false
/-- Slices of which it is not known whether they are nil. -/
def roomless : AV → Bool
  | .z 8 => true
  | .r _ _ _ _ => true
  | _ => false
/-- One operation that is no call, of the store S; what it allocates gets the number slot. -/
def opD {α : Type} (S : List Blk) (env : List AV) (slot : Nat) (K : KV α) : Op → Option α
  | .move x | .assign x => K (ev env x) S []
  | .alloc T => if zck C T = true then match C.und T with
    | some (.array n e) => match (if isU8 C e = true then none else fz C S C.P.depth T (zero C C.P.depth T)) with
      | some (.g xs, []) => K (.p slot []) (S.set slot (.arr e xs)) []
      | _ => none
    | _ => K (.p slot []) (S.set slot (.obj T (zero C C.P.depth T))) []
    else none
  | .box T x => match C.und T with
    | some (.array n e) => match (if isU8 C e = true then none else fz C S C.P.depth T (ev env x)) with
      | some (.g xs, []) => K (.p slot []) (S.set slot (.arr e xs)) []
      | _ => none
    | _ => if sh C C.P.depth T (ev env x) = true then K (.p slot []) (S.set slot (.obj T (ev env x))) [] else none
  | .build T parts => if zck C T = true then match C.und T, zero C C.P.depth T with
    | some (.struct fs), .g zs => if (parts.toList.all fun q => match fs[q.1]? with | some f => sh C C.P.depth f.type (ev env q.2) | none => false) = true then K (.g (parts.toList.foldl (fun zs q => zs.set q.1 (ev env q.2)) zs)) S [] else none
    | some (.array n e), .g zs => if (C.und e).isSome = true ∧ (parts.toList.all fun q => decide (q.1 < n) && sh C C.P.depth e (ev env q.2)) = true then K (.g (parts.toList.foldl (fun zs q => zs.set q.1 (ev env q.2)) zs)) S [] else none
    | _, _ => none
    else none
  | .buildSlice T len parts => match C.und T with
    | some (.slice e) => if zck C e = true ∧ len * C.P.cellsOf e ≤ 16777216 ∧ (parts.toList.all fun q => decide (q.1 < len)) = true then match fz C S C.P.depth e (zero C C.P.depth e), fzL (fz C S C.P.depth) (parts.toList.map fun _ => e) (parts.toList.map fun q => ev env q.2) with
      | some (z, []), some x => K (.w e slot) ((kill x.2 S).set slot (.arr e ((parts.toList.zip x.1).foldl (fun xs q => xs.set q.1.1 q.2) (List.replicate len z)))) x.2
      | _, _ => none
      else none
    | _ => none
  | .load T x => match ev env x with
    | .at T' a => if T' = T then K a S [] else none
    | .p id path => match S.getD id .dead with
      | .obj T' a => if pty C T' path = some T then K (getPath a path) S [] else none
      | .arr e xs => match path, C.und T with
        | [], some (.array n e') => if e' = e ∧ n = xs.length then K (.g xs) S [] else none
        | _, _ => none
      | .dead => none
    | .q id idx path => match S.getD id .dead with
      | .arr e xs => if pty C e path = some T then K (getPath (view C C.P.depth e (xs.getD idx .u)) path) S [] else none
      | _ => none
    | _ => none
  | .store T' x y => match ev env x with
    | .p id path => match S.getD id .dead with
      | .obj T a => if pty C T path = some T' ∧ sh C C.P.depth T' (ev env y) = true then K .u (S.set id (.obj T (setPath (ev env y) a path))) [] else none
      | .arr e xs => match path, C.und T', fz C S C.P.depth T' (ev env y) with
        | [], some (.array n e'), some (.g ys, []) => if e' = e ∧ n = xs.length then K .u (S.set id (.arr e ys)) [] else none
        | _, _, _ => none
      | .dead => none
    | .q id idx path => match S.getD id .dead with
      | .arr e xs => if pty C e path = some T' ∧ sh C C.P.depth T' (ev env y) = true then match fz C S C.P.depth e (setPath (ev env y) (view C C.P.depth e (xs.getD idx .u)) path) with
        | some z => if z.2.contains id = false then K .u ((kill z.2 S).set id (.arr e (xs.set idx z.1))) z.2 else none
        | none => none
        else none
      | _ => none
    | _ => none
  | .nilCheck x => match ev env x with
    | .p id path => K (.p id path) S []
    | .q id idx path => K (.q id idx path) S []
    | .at T a => K (.at T a) S []
    | .fn f a c => K (.fn f a c) S []
    | _ => none
  | .binOp op T x y _ => binD C op T (ev env x) (ev env y) fun v => K v S []
  | .unOp op _ x => unD op (ev env x) fun v => K v S []
  | .convert src dst x => match C.und src, C.und dst, ev env x with
    | some _, some (.int k), .i _ n => K (.i k (k.wrap n)) S []
    | some _, some .string, .s a => K (.s a) S []
    | some (.slice e), some .string, a => if isU8 C e = true ∧ (elT a = some e ∨ elT a = none) then match elems S a with
      | some xs => K (.s (bytesOf xs)) S []
      | none => none
      else none
    | some (.pointer T1), some .unsafePointer, .p id path => match S.getD id .dead with
      | .obj T _ => if pty C T path = some T1 ∧ pok C T path = true then K (.p id path) S [] else none
      | _ => none
    | some .unsafePointer, some (.pointer T1), .p id [] => match S.getD id .dead with
      | .obj T _ => if T = T1 ∧ pok C T [] = true then K (.p id []) S [] else none
      | _ => none
    | _, _, _ => none
  | .makeFunc (.func f) first cap => if ((first.toList.map (ev env)).all isOne && (cap.toList.map (ev env)).all isOne) = true then K (.fn f (first.toList.map (ev env)) (cap.toList.map (ev env))) S [] else none
  | .makeSlice T len cap => match C.und T, ev env len, ev env cap with
    | some (.slice e), .i _ n, .i _ c => if zck C e = true ∧ C.P.bytesOf e ≤ 65536 then match fz C S C.P.depth e (zero C C.P.depth e) with
      | some (z, []) => if 0 ≤ n ∧ n ≤ c ∧ c ≤ 16777216 then K (.w e slot) (S.set slot (.arr e (List.replicate n.toNat z))) [] else none
      | _ => none
      else none
    | _, _, _ => none
  | .slice T x lo hi none => match C.und T, ev env x with
    | some .string, .s a => cut3 a.size (lo.map (ev env)) (hi.map (ev env)) fun l h => K (.s (a.extract l h)) S []
    | some (.slice e'), .l e xs => if e' = e ∧ (C.und e).isSome = true then cut3 xs.length (lo.map (ev env)) (hi.map (ev env)) fun l h => K (.l e ((xs.take h).drop l)) S [] else none
    | some (.slice e'), .z 1 => if (C.und e').isSome = true then cut3 0 (lo.map (ev env)) (hi.map (ev env)) fun _ _ => K (.z 1) S [] else none
    | some (.slice e'), .w e id => if e' = e ∧ (C.und e).isSome = true then match S.getD id .dead with
      | .arr _ xs => cut3 xs.length (lo.map (ev env)) (hi.map (ev env)) fun l h => K (.r e id l (h - l)) S []
      | _ => none
      else none
    | some (.slice e'), .r e id off len => if e' = e ∧ (C.und e).isSome = true then match S.getD id .dead with
      | .arr _ _ => cut3 len (lo.map (ev env)) (hi.map (ev env)) fun l h => K (.r e id (off + l) (h - l)) S []
      | _ => none
      else none
    | some (.array n e'), .p id [] => match S.getD id .dead with
      | .arr e xs => if e' = e ∧ n = xs.length ∧ (C.und e).isSome = true then cut3 xs.length (lo.map (ev env)) (hi.map (ev env)) fun l h => K (.r e id l (h - l)) S [] else none
      | _ => none
    | _, _ => none
  | .slice T x none (some hi) (some mx) => match C.und T, ev env x, ev env hi, ev env mx with
    | some (.slice e'), a, .i _ n, .i _ m => if n = 0 ∧ m = 0 ∧ (elems S a).isSome = true ∧ (C.und e').isSome = true then K (.z 8) S [] else none
    | _, _, _, _ => none
  | .fieldAddr s x f => match ev env x with
    | .p id path => match S.getD id .dead with
      | .obj T _ => if pty C T path = some s ∧ pok C T (path ++ [f]) = true then K (.p id (path ++ [f])) S [] else none
      | _ => none
    | .q id idx path => match S.getD id .dead with
      | .arr e _ => if pty C e path = some s ∧ pok C e (path ++ [f]) = true then K (.q id idx (path ++ [f])) S [] else none
      | _ => none
    | .at T a => if T = s ∧ pok C s [f] = true then match pty C s [f] with
        | some T' => K (.at T' (a.fld f)) S []
        | none => none
      else none
    | _ => none
  | .field s x f => if sh C C.P.depth s (ev env x) = true ∧ (pty C s [f]).isSome = true then K ((ev env x).fld f) S [] else none
  | .indexAddr T x ix => match ev env ix with
    | .i _ n => match C.und T, ev env x with
      | some (.slice e'), .l e xs => if e' = e then (if 0 ≤ n ∧ n < (xs.length : Int) then K (.at e (view C C.P.depth e (xs.getD n.toNat .u))) S [] else none) else none
      | some (.slice e'), .w e id => if e' = e then match S.getD id .dead with
        | .arr _ xs => if 0 ≤ n ∧ n < (xs.length : Int) then K (.q id n.toNat []) S [] else none
        | _ => none
        else none
      | some (.slice e'), .r e id off len => if e' = e then match S.getD id .dead with
        | .arr _ _ => if 0 ≤ n ∧ n < (len : Int) then K (.q id (off + n.toNat) []) S [] else none
        | _ => none
        else none
      | some (.array m e'), .p id [] => match S.getD id .dead with
        | .arr e xs => if e' = e ∧ m = xs.length then (if 0 ≤ n ∧ n < (xs.length : Int) then K (.q id n.toNat []) S [] else none) else none
        | _ => none
      | _, _ => none
    | _ => none
  | .index T x ix => match ev env ix with
    | .i _ n => match C.und T, ev env x with
      | some .string, .s a => if 0 ≤ n ∧ n < (a.size : Int) then K (.i .u8 ((a.data.getD n.toNat 0).toNat : Int)) S [] else none
      | some (.array m e), .g fs => match fz C S C.P.depth T (.g fs) with
        | some (.g gs, []) => if 0 ≤ n ∧ n < (m : Int) then K (view C C.P.depth e (gs.getD n.toNat .u)) S [] else none
        | _ => none
      | _, _ => none
    | _ => none
  | .extract x j => match ev env x with
    | .t vs => match vs[j]? with
      | some v => K v S []
      | none => none
    | _ => none
  | .call { callee := .builtin .len, args, argTypes } => match C.und ((argTypes[0]?).getD C.P.types.size), args.toList with
    | some .string, [x] => match ev env x with
      | .s a => K (.i .i64 (a.size : Int)) S []
      | _ => none
    | some (.slice _), [x] => match ev env x with
      | .r _ _ _ len => K (.i .i64 (len : Int)) S []
      | a => match elems S a with
        | some xs => K (.i .i64 (xs.length : Int)) S []
        | none => none
    | some (.array n _), [_] => K (.i .i64 (n : Int)) S []
    | _, _ => none
  | .call { callee := .builtin .max, args, .. } => match args.toList.map (ev env) with
    | [.i k a, .i _ c] => K (.i k (if c > a then c else a)) S []
    | _ => none
  | .call { callee := .builtin .min, args, .. } => match args.toList.map (ev env) with
    | [.i k a, .i _ c] => K (.i k (if c < a then c else a)) S []
    | _ => none
  | .call { callee := .builtin .append, args, argTypes } => match C.und ((argTypes[0]?).getD C.P.types.size), args.toList.map (ev env) with
    | some (.slice e), [x, y] => if zck C e = true ∧ C.P.bytesOf e ≤ 65536 ∧ appKind C ((argTypes[1]?).getD C.P.types.size) = true then if elT x = some e ∨ elT x = none then match elems S x, appSrc C S e y with
      | some xs, some ys => match x with
        | .l _ _ => none
        | _ => if xs.length + ys.length ≤ 16777216 ∧ (isU8 C e && roomless x) = false then K (.w e slot) ((kill (ownId x) S).set slot (.arr e (xs ++ ys))) [] else none
      | _, _ => none
      else none
      else none
    | _, _ => none
  | _ => none
def slotsOf : Op → Nat
  | .alloc _ | .box .. | .buildSlice .. | .makeSlice .. => 1
  | .call { callee := .builtin .append, .. } => 1
  | .call { callee := .builtin _, .. } => 0
  | .call _ => 8
  | _ => 0
/-- What of the store an operation looks at or turns: 0 nothing, 1 it looks, 2 it sets its own slots alone, 3 it turns it. -/
def cls : Op → Nat
  | .move _ | .assign _ | .binOp .. | .unOp .. | .extract .. | .makeFunc .. | .nilCheck _ | .field .. | .build .. | .pick .. => 0
  | .load .. | .fieldAddr .. | .indexAddr .. | .index .. | .slice .. | .convert .. => 1
  | .call { callee := .builtin .max, .. } => 0
  | .call { callee := .builtin .min, .. } => 0
  | .call { callee := .builtin .len, .. } => 1
  | .alloc _ | .box .. | .buildSlice .. | .makeSlice .. => 2
  | _ => 3
def putE (env : List AV) (dst : Option Tmp) (v : AV) : List AV := match dst with
  | some d => env.set d v
  | none => env
def setO (env : List AV) (x : Operand) (v : AV) : List AV := match x with
  | .tmp t => env.set t v
  | _ => env
def elemOf (T : TypeId) : TypeId := match C.und T with
  | some (.slice e) => e
  | some (.pointer e) => e
  | some (.array _ e) => e
  | _ => 0
def ownish : AV → Bool
  | .w .. => true
  | .r .. => true
  | .z 1 => true
  | _ => false
def nodupB : List Nat → Bool
  | [] => true
  | x :: xs => !xs.contains x && nodupB xs
/-- A field: data, or a pointer that is nil, or leads to the object itself. -/
def fzP (S : List Blk) (me : Nat) (T : TypeId) (a : AV) : Option (AV × List Nat) := match C.und T, a with
  | some (.pointer _), .z 0 => some (.z 0, [])
  | some (.pointer _), .p i [] => if i = me then some (.z 9, []) else none
  | _, a => fz C S C.P.depth T a
/-- Data of an object's fields; its own ones are no data, but lists. -/
def objD (S : List Blk) (me : Nat) (own : List Nat) : Nat → List Field → List AV → Option (List AV × List Nat)
  | _, [], [] => some ([], [])
  | j, f :: fs, a :: as => (if own.contains j = true then (if ownish a = true ∧ (isU8 C (elemOf C f.type) && roomless a) = false then (elems S a).bind fun xs => some (.l (elemOf C f.type) xs, []) else none) else fzP C S me f.type a).bind fun x => (objD S me own (j + 1) fs as).bind fun y => some (x.1 :: y.1, x.2 ++ y.2)
  | _, _, _ => none
/-- An object that is handed over by reference. -/
def refO (S : List Blk) (T1 : TypeId) (id : Nat) : Option (AV × List Nat × List Nat) := match C.und T1, S.getD id .dead with
  | some (.array n e), .arr e' xs => if e' = e ∧ n = xs.length then some (.g xs, [], [id]) else none
  | some (.array ..), _ => none
  | some (.struct fs), .obj T' (.g as) => if nodupB (C.own T') = true ∧ T' = T1 then (objD C S id (C.own T') 0 fs.toList as).bind fun x => some (.g x.1, x.2, id :: (C.own T').flatMap fun j => ownId ((AV.g as).fld j)) else none
  | some (.struct _), _ => none
  | some _, .obj T' v => if T' = T1 then (fz C S C.P.depth T1 v).bind fun x => some (x.1, x.2, [id]) else none
  | _, _ => none
/-- What a function has caught is lent for reading. -/
def passC (S : List Blk) : List AV → Option (List AV × List Nat)
  | [] => some ([], [])
  | .p id path :: as => match S.getD id .dead with
    | .obj T' v => match pty C T' path with
      | some T'' => (fz C S C.P.depth T'' (getPath v path)).bind fun x => (passC S as).bind fun y => some (.at T'' x.1 :: y.1, id :: (x.2 ++ y.2))
      | none => none
    | _ => none
  | .at T v :: as => (passC S as).bind fun y => some (.at T v :: y.1, y.2)
  | _ :: _ => none
/-- What is handed over for a parameter; what is laid open by it; what goes over with it. -/
def passD (S : List Blk) (mode : Nat) (T : TypeId) (a : AV) : Option (AV × List Nat × List Nat) :=
  match mode with
  | 0 => match C.und T, a with
    | some (.pointer _), .at T' v => some (.at T' v, [], [])
    | some (.pointer _), .z 0 => some (.z 0, [], [])
    | some (.func ..), .fn f [] caps => (passC C S caps).bind fun x => some (.fn f [] x.1, x.2, [])
    | some (.func ..), .z 2 => some (.z 2, [], [])
    | some (.interface _), _ => some (.u, [], [])
    | _, a => (fz C S C.P.depth T a).bind fun x => some (x.1, x.2, [])
  | 1 => match C.und T, a with
    | some (.pointer T1), .p id [] => refO C S T1 id
    | some (.slice e), .z 1 => some (.l e [], [], [])
    | some (.slice e), .w e' id => if e' = e then (elems S (.w e id)).bind fun xs => some (.l e xs, [], [id]) else none
    | _, _ => none
  | 2 => match C.und T, a with
    | some (.slice e), .z 1 => some (.l e [], [], [])
    | some (.slice e), .w e' id => if e' = e then (elems S (.w e id)).bind fun xs => some (.l e xs, [], [id]) else none
    | some (.slice e), .r e' id off len => if e' = e ∧ isU8 C e = false then (elems S (.r e id off len)).bind fun xs => some (.l e xs, [], [id]) else none
    | _, _ => none
  | 4 => match a with
    | .p id [] => refO C S T id
    | _ => none
  | 5 => match a with
    | .at T' v => some (.at T' v, [], [])
    | _ => none
  | _ => match C.und T, a with
    | some (.pointer _), .at T' v => some (.at T' v, [], [])
    | some (.pointer T1), .p id path => match S.getD id .dead with
      | .obj T' v => match pty C T' path with
        | some T'' => if T'' = T1 then (fz C S C.P.depth T'' (getPath v path)).bind fun x => some (.at T'' x.1, id :: x.2, []) else none
        | none => none
      | _ => none
    | some (.pointer T1), .q id idx path => match S.getD id .dead with
      | .arr e xs => match pty C e path with
        | some T'' => if T'' = T1 ∧ idx < xs.length then some (.at T'' (getPath (view C C.P.depth e (xs.getD idx .u)) path), [id], []) else none
        | none => none
      | _ => none
    | _, _ => none
def passL (S : List Blk) : List Nat → List TypeId → List AV → Option (List AV × List Nat × List Nat)
  | _, _, [] => some ([], [], [])
  | ms, Ts, a :: as => (passD C S (ms.headD 0) (Ts.headD 0) a).bind fun x => (passL S ms.tail Ts.tail as).bind fun y => some (x.1 :: y.1, x.2.1 ++ y.2.1, x.2.2 ++ y.2.2)
/-- An object whose own fields are blocks, numbered from base on. -/
def viewP (t : Nat) (T : TypeId) (a : AV) : AV := match C.und T, a with
  | some (.pointer _), .z 0 => .z 0
  | some (.pointer _), .z 9 => .p t []
  | _, a => view C C.P.depth T a
def ownV (T : TypeId) (t base : Nat) (a : AV) : AV := match C.und T with
  | some (.struct fs) => .g (fs.toList.zipIdx.map fun f => if (C.own T).contains f.2 = true then .w (elemOf C f.1.type) (base + (C.own T).idxOf f.2) else viewP C t f.1.type (a.fld f.2))
  | _ => .u
def ownB (T : TypeId) (a : AV) : List Blk := (C.own T).map fun j => .arr (match pty C T [j] with | some T' => elemOf C T' | none => 0) (a.fld j).list
def AV.gl : AV → List AV
  | .g xs => xs
  | _ => []
/-- Data of a type, or a pointer or a function that is handed on. -/
def dat (T : TypeId) (a : AV) : AV := match C.und T with
  | some (.pointer _) => (match a with
    | .at T' v => .at T' (view C C.P.depth T' v)
    | a => a)
  | some (.func ..) => a
  | _ => view C C.P.depth T a
/-- What a function has caught. -/
def datC (a : AV) : AV := match a with
  | .at T' v => .at T' (view C C.P.depth T' v)
  | a => a
/-- The types of a function's arguments; what it has caught tells its own. -/
def parL (f : Func) : List TypeId := f.params.toList ++ List.replicate f.nfree 0
/-- An object by reference, as the other frame sees it. -/
def layO (T' : TypeId) (t base : Nat) (a : AV) : AV × List Blk := match C.und T' with
  | some (.array _ e) => (.p t [], [.arr e a.gl])
  | some (.struct _) => (.p t [], .obj T' (ownV C T' t base a) :: ownB C T' a)
  | _ => (.p t [], [.obj T' (view C C.P.depth T' a)])
/-- A value that is handed over, as the other frame sees it: its block is t, its own fields' from base on. -/
def lay (m : Nat) (T : TypeId) (t base : Nat) (a : AV) : AV × List Blk :=
  if m = 1 ∨ m = 2 then match C.und T with
    | some (.slice e) => (.w e t, [.arr e a.list])
    | some (.pointer T') => layO C T' t base a
    | _ => (.u, [.dead])
  else if m = 4 then layO C T t base a
  else if m = 5 then (datC C a, [])
  else (dat C T a, [])
def setL (S : List Blk) (slot : Nat) : List Blk → List Blk
  | [] => S
  | B :: Bs => setL (S.set slot B) (slot + 1) Bs
def optOf : AV → Option Nat
  | .p id [] => some id
  | .w _ id => some id
  | _ => none
/-- The places that a call writes anew: its own results get slots, what its references lead to stays where it was. -/
def tgtL : List Nat → List TypeId → List AV → List (Nat × TypeId × Option Nat)
  | _, _, [] => []
  | ms, Ts, a :: as => if ms.headD 0 = 1 then (1, Ts.headD 0, optOf a) :: tgtL ms.tail Ts.tail as else tgtL ms.tail Ts.tail as
def putAll : List (Nat × TypeId × Option Nat) → List AV → List Blk → Nat → List AV × List Blk × Nat
  | [], _, S, slot => ([], S, slot)
  | (m, T, none) :: ps, o, S, slot =>
    let z := lay C m T slot (slot + 1) (o.headD .u)
    let y := putAll ps o.tail (setL S slot z.2) (slot + z.2.length)
    (z.1 :: y.1, y.2)
  | (m, T, some id) :: ps, o, S, slot =>
    let z := lay C m T id slot (o.headD .u)
    let y := putAll ps o.tail (setL (S.set id (z.2.headD .dead)) slot z.2.tail) (slot + z.2.tail.length)
    (z.1 :: y.1, y.2)
/-- No block twice, none that is laid open. -/
def freeB (l ks : List Nat) : Bool := nodupB l && l.all fun x => !ks.contains x
def rmL (ms : List Nat) (Ts : List TypeId) : List (Nat × TypeId × Option Nat) := Ts.zipIdx.map fun q => (ms.getD q.2 0, q.1, none)
def one : List AV → AV
  | [a] => a
  | as => .t as
/-- How calls are run: on data; on the caller's own store. -/
structure CallF where
  f : FuncId → List AV → Out
  s : {α : Type} → FuncId → Func → List Blk → Nat → List AV → KV α → Option α
/-- Types that reach nothing. -/
def flat : Nat → TypeId → Bool
  | 0, _ => false
  | d + 1, T => match C.und T with
    | some (.int _) => true
    | some .bool => true
    | some .string => true
    | some (.struct fs) => fs.toList.all fun f => flat d f.type
    | some (.array _ e) => flat d e
    | _ => false
def flatR : List Nat → List TypeId → Bool
  | _, [] => true
  | ms, T :: Ts => (if ms.headD 0 = 2 then flat C C.P.depth (elemOf C T) && (match C.und T with | some (.slice _) => true | _ => false) else ms.headD 0 == 0 && flat C C.P.depth T) && flatR ms.tail Ts
/-- Does a function borrow its arguments alone? -/
def lends (n : FuncId) (f : Func) : Bool := ((C.pm n).all fun m => m == 0 || m == 3) && flatR C (C.rm n) f.resultTypes.toList
/-- No function is one that the model answers by itself. -/
def namesB : Bool := C.P.funcs.toList.all fun f => !(f.name == "runtime.NumGoroutine")
/-- A call: by contract, or of the program's own body. -/
def callP (call : CallF) (n : FuncId) (args : List AV) : Out := match C.prim n with
  | some pf => pf args
  | none => call.f n args
def inlB (n : FuncId) (args : List AV) : Bool := match C.inl n with
  | some p => p args
  | none => false
def isLive : Blk → Bool
  | .dead => false
  | _ => true
def mapO {β γ : Type} (f : β → Option γ) : List β → Option (List γ)
  | [] => some []
  | a :: as => (f a).bind fun b => (mapO f as).bind fun bs => some (b :: bs)
/-- A value whose blocks are numbered anew. -/
def renA (ren : Nat → Option Nat) : Nat → AV → Option AV
  | 0, _ => none
  | d + 1, a => match a with
    | .w e id => (ren id).bind fun i => some (.w e i)
    | .r e id off len => (ren id).bind fun i => some (.r e i off len)
    | .p id path => (ren id).bind fun i => some (.p i path)
    | .q id idx path => (ren id).bind fun i => some (.q i idx path)
    | .g fs => (mapO (renA ren d) fs).bind fun as => some (.g as)
    | .t vs => (mapO (renA ren d) vs).bind fun as => some (.t as)
    | .fn f as bs => (mapO (renA ren d) as).bind fun as => (mapO (renA ren d) bs).bind fun bs => some (.fn f as bs)
    | a => some a
def renB (ren : Nat → Option Nat) : Blk → Option Blk
  | .dead => some .dead
  | .obj T a => (renA ren 40 a).bind fun a => some (.obj T a)
  | .arr e xs => some (.arr e xs)
/-- What a value refers to. -/
def refA : Nat → AV → List Nat
  | 0, _ => []
  | d + 1, a => match a with
    | .w _ id => [id]
    | .r _ id _ _ => [id]
    | .p id _ => [id]
    | .q id _ _ => [id]
    | .g fs => fs.flatMap (refA d)
    | .t vs => vs.flatMap (refA d)
    | .fn _ as bs => as.flatMap (refA d) ++ bs.flatMap (refA d)
    | _ => []
def refB : Blk → List Nat
  | .obj _ a => refA 40 a
  | _ => []
/-- What blocks lead to, in so many steps. -/
def reachL (S : List Blk) : Nat → List Nat → List Nat
  | 0, l => l
  | k + 1, l => reachL S k (l ++ l.flatMap fun id => refB (S.getD id .dead))
/-- What is new, lives, and is reached. -/
def newL (S S' : List Blk) (as : List AV) : List Nat :=
  let rs := reachL S' 2 (as.flatMap (refA 40) ++ (List.range S.length).flatMap fun id => refB (S'.getD id .dead))
  (List.range S'.length).filter fun id => decide (S.length ≤ id) && isLive (S'.getD id .dead) && rs.contains id
def renI (S : List Blk) (slot : Nat) (lv : List Nat) (id : Nat) : Option Nat :=
  if id < S.length then (if isLive (S.getD id .dead) = true then some id else none) else if lv.contains id = true then some (slot + lv.idxOf id) else none
/-- Behind a body that was run on the caller's store: what is new gets the numbers from slot on. -/
def renum (S : List Blk) (slot : Nat) (as : List AV) (S' : List Blk) : Option (List Nat × List Blk) :=
  let lv := newL S S' as
  if lv.length ≤ 8 ∧ (List.range S.length).all (fun id => isLive (S.getD id .dead) || !isLive (S'.getD id .dead)) = true then
    (mapO (fun id => renB (renI S slot lv) (S'.getD (if slot ≤ id ∧ id < slot + lv.length then lv.getD (id - slot) 0 else id) .dead)) (List.range S.length)).bind fun S2 => some (lv, S2)
  else none
/-- A function without a body. -/
def extD (S : List Blk) (q : Nat × IntKind) (args : List AV) : Option (AV × List Blk) := match q.1, args with
  | 1, [.at T a] => match C.und T, a with
    | some (.int k), .i k' n => if k = q.2 ∧ k' = k then some (.i k n, S) else none
    | _, _ => none
  | 1, [.p id path] => match S.getD id .dead with
    | .obj T a => match pty C T path with
      | some T' => match C.und T', getPath a path with
        | some (.int k), .i k' n => if k = q.2 ∧ k' = k then some (.i k n, S) else none
        | _, _ => none
      | none => none
    | _ => none
  | 2, [.p id path, .i k n] => match S.getD id .dead with
    | .obj T a => match pty C T path with
      | some T' => match C.und T' with
        | some (.int k') => if k' = k ∧ k = q.2 then some (.t [], S.set id (.obj T (setPath (.i k n) a path))) else none
        | _ => none
      | none => none
    | _ => none
  | 3, [.p id path, .i k n] => match S.getD id .dead with
    | .obj T a => match pty C T path with
      | some T' => match C.und T', getPath a path with
        | some (.int k'), .i k'' m => if k' = k ∧ k = q.2 ∧ k'' = k then some (.i k (k.wrap (m + n)), S.set id (.obj T (setPath (.i k (k.wrap (m + n))) a path))) else none
        | _, _ => none
      | none => none
    | _ => none
  | 4, [a] => some (a, S)
  | _, _ => none
def callD {α : Type} (call : CallF) (S : List Blk) (slot : Nat) (n : FuncId) (args : List AV) (K : KV α) : Option α :=
  match C.P.funcs[n]? with
  | none => none
  | some f => match C.primS n with
    | some g => match g S slot args with
      | none => none
      | some q => if q.1 = true then (if q.2.2.1.length = S.length ∧ f.body.isSome = true then K q.2.1 q.2.2.1 q.2.2.2 else none) else none
    | none => match C.ext n with
    | some e => (extD C S e args).bind fun q => if q.2.length = S.length then K q.1 q.2 [] else none
    | none => if inlB C n args = true then (if f.body.isSome = true then call.s n f S slot args fun v S' ks => if S'.length = S.length then K v S' ks else none else none) else match passL C S (C.pm n) (parL f) args with
    | none => none
    | some x => if args.length = f.params.size + f.nfree ∧ freeB x.2.2 x.2.1 = true then (callP C call n x.1).bind fun o =>
      let ks := if lends C n f = true then [] else x.2.1
      let y := putAll C (rmL (C.rm n) f.resultTypes.toList ++ tgtL (C.pm n) (parL f) args) o (kill (ks ++ x.2.2) S) slot
      if y.2.2 ≤ slot + 8 ∧ f.body.isSome = true then K (one (y.1.take f.resultTypes.size)) y.2.1 ks else none
      else none
def clsO (o : Oper) : Nat := match o.op with
  | .call { callee := .value (.func n), .. } => match C.P.funcs[n]? with
    | some f => if (C.primS n).isNone = true ∧ (C.ext n).isNone = true ∧ (C.inl n).isNone = true ∧ lends C n f = true then 2 else 3
    | none => 3
  | op => cls op
def guardT (ops : List Oper) (g : Nat) : Operand := match ops[g]? with
  | some o => match o.dst with
    | some t => .tmp t
    | none => .global 0
  | none => .global 0
abbrev KE (α : Type) := List AV → KV α
/-- One operation of a region, its choice among them. -/
def goD {α : Type} (call : CallF) (o : Oper) (slot : Nat) (env : List AV) (S : List Blk) (K : KE α) : Option α := match o.op with
  | .pick c a b => match ev env c with
    | .b t => if t = true then K (setO env c (.b true)) (ev env a) S [] else K (setO env c (.b false)) (ev env b) S []
    | _ => none
  | .call { callee := .value f, args, .. } => match ev env f with
    | .fn n first cap => if (first.all isOne && cap.all isOne) = true then callD C call S slot n (first ++ args.toList.map (ev env) ++ cap) (K env) else none
    | _ => none
  | op => opD C S env slot (K env) op
/-- And its guard. -/
def stepD {α : Type} (call : CallF) (all : List Oper) (o : Oper) (slot : Nat) (env : List AV) (S : List Blk) (K : KE α) : Option α :=
  match o.guard with
  | none => goD C call o slot env S K
  | some (g, pol) => match ev env (guardT all g) with
    | .b t => if t = pol then goD C call o slot (setO env (guardT all g) (.b pol)) S K else K (setO env (guardT all g) (.b (!pol))) (.t []) S []
    | .t [] => K env (.t []) S []
    | _ => none
/-- What an operation of a drawn region sees of the store: nothing, or all but some; and may it lay open. -/
abbrev Plan := List (Option (List Nat) × Bool)
def hideS : Option (List Nat) → List Blk → List Blk
  | none, S => S.map fun _ => .dead
  | some [], S => S
  | some l, S => kill l S
def backS : Option (List Nat) → List Blk → List Blk → List Blk
  | none, S, _ => S
  | some [], _, S' => S'
  | some l, S, S' => S'.zipIdx.map fun x => if l.contains x.2 then S.getD x.2 .dead else x.1
def openL : List (List Blk × List Nat) → AV → AV
  | [], a => a
  | q :: qs, a => openL qs (openAV q.1 q.2 a)
def opsD {α : Type} (call : CallF) (all : List Oper) (K : X → Option α) : List Oper → Plan → Nat → List AV → List Blk → List (List Blk × List Nat) → Option α
  | [], _, _, env, S, op => match op with
    | [] => K ⟨env, S⟩
    | _ => K ⟨env.map (openL op), S⟩
  | o :: rest, pl, slot, env, S, op =>
    stepD C call all o slot env (hideS (pl.headD (some [], true)).1 S) fun env v S' ks => match ks with
      | [] => opsD call all K rest pl.tail (slot + slotsOf o.op) (putE env o.dst v) (backS (pl.headD (some [], true)).1 S S') op
      | k :: ks => match pl.headD (some [], true) with
        | (some [], true) => opsD call all K rest pl.tail (slot + slotsOf o.op) (putE env o.dst v) S' (op ++ [(S, k :: ks)])
        | _ => none
def addAll : List Nat → List Nat → List Nat
  | acc, [] => acc
  | acc, x :: xs => if acc.contains x then addAll acc xs else addAll (acc ++ [x]) xs
def ancs : List Oper → List (List Nat) → List (List Nat)
  | [], acc => acc
  | o :: rest, acc => ancs rest (acc ++ [o.after.toList.foldl (fun s e => if Region.binds .any e = true then addAll (addAll s [e.on]) (acc.getD e.on []) else s) []])
def slotL : Nat → List Oper → List Nat
  | _, [] => []
  | b, o :: rest => b :: slotL (b + slotsOf o.op) rest
/-- May a region's operations come in any order that its edges allow? -/
def drawOk (ops : List Oper) : Bool :=
  let an := ancs ops []
  ops.zipIdx.all fun x => (x.1.after.toList.all fun e => !Region.binds .any e || decide (e.on < x.2)) &&
    (ops.take x.2).zipIdx.all fun y => (an.getD x.2 []).contains y.2 ||
      ((clsO C x.1 != 3 || decide (clsO C y.1 ≤ 2)) && (clsO C y.1 != 3 || decide (clsO C x.1 ≤ 2)) && x.1.apart ops.toArray y.1)
def hidOf (an : List (List Nat)) (ops : List Oper) (sl : List Nat) (i : Nat) : List Nat :=
  ((ops.take i).zipIdx.filter fun y => !(an.getD i []).contains y.2 && slotsOf y.1.op != 0).flatMap fun y => (List.range (slotsOf y.1.op)).map fun j => sl.getD y.2 0 + j
/-- May two operations come in either order? -/
def freeP (an : List (List Nat)) (i j : Nat) : Bool := !(an.getD i []).contains j && !(an.getD j []).contains i
/-- What an operation that looks at the store looks at. -/
def mainO : Op → Option Operand
  | .load _ x => some x
  | .fieldAddr _ x _ => some x
  | .indexAddr _ x _ => some x
  | .slice _ x _ _ _ => some x
  | .convert _ _ x => some x
  | .call { args, .. } => args[0]?
  | _ => none
/-- Where a value came from, through the operations ahead. -/
def rootO (ops : List Oper) : Nat → Nat → Operand → Option Operand
  | 0, _, _ => none
  | d + 1, i, x => match x with
    | .tmp t => match ((ops.take i).zipIdx.reverse).find? fun y => y.1.dst == some t with
      | none => some x
      | some y => match y.1.op with
        | .move z | .assign z | .nilCheck z | .fieldAddr _ z _ => rootO ops d y.2 z
        | _ => none
    | _ => none
def rdOf (base : Nat) (env : List AV) (ops : List Oper) (i : Nat) : List Nat := match ops[i]? with
  | some o => match (mainO o.op).bind (rootO ops 9 i) with
    | some r => (ownId (ev env r)).filter fun id => decide (id < base)
    | none => []
  | none => []
/-- Is an operation that looks at the store free of one that turns it? -/
def aloneB (an : List (List Nat)) (ops : List Oper) (i : Nat) : Bool := match ops[i]? with
  | some o => clsO C o == 1 && ops.zipIdx.any fun y => clsO C y.1 == 3 && freeP an i y.2
  | none => false
/-- Is an operation that turns its own slots alone free of one that turns the store? -/
def looseB (an : List (List Nat)) (ops : List Oper) (i : Nat) : Bool := match ops[i]? with
  | some o => clsO C o == 2 && ops.zipIdx.any fun y => clsO C y.1 == 3 && freeP an i y.2
  | none => false
def ownSl (ops : List Oper) (sl : List Nat) (i : Nat) : List Nat := match ops[i]? with
  | some o => (List.range (slotsOf o.op)).map fun j => sl.getD i 0 + j
  | none => []
def planOf (base : Nat) (env : List AV) (ops : List Oper) : Plan :=
  let an := ancs ops []
  let sl := slotL base ops
  let top := base + (ops.map fun o => slotsOf o.op).sum
  ops.zipIdx.map fun x => if clsO C x.1 = 0 then (none, false)
    else if clsO C x.1 = 3 then (some ((List.range ops.length).flatMap fun i => if freeP an i x.2 = true then (if aloneB C an ops i = true then rdOf base env ops i else if looseB C an ops i = true then ownSl ops sl i else []) else []), true)
    else if aloneB C an ops x.2 = true then (some ((List.range top).filter fun id => !(rdOf base env ops x.2).contains id), false)
    else if looseB C an ops x.2 = true then (some ((List.range top).filter fun id => !(ownSl ops sl x.2).contains id), false)
    else (some (hidOf an ops sl x.2), false)
inductive It where
  | code (c : Code)
  | blk (id : Nat)
  | lp (c : Code)
def exitI (id : Nat) : List It → Option (List It)
  | .blk id' :: k => if id' = id then some k else exitI id k
  | _ :: k => exitI id k
  | [] => none
def resV (env : List AV) (S : List Blk) : ResultVar → Option AV
  | .tmp t => some (env.getD t .u)
  | .cell a T => match env.getD a .u with
    | .p id [] => match S.getD id .dead with
      | .obj T' v => if T' = T then some v else none
      | _ => none
    | _ => none
def resL (env : List AV) (S : List Blk) : List ResultVar → Option (List AV)
  | [] => some []
  | r :: rs => (resV env S r).bind fun a => (resL env S rs).bind fun as => some (a :: as)
/-- The frame at its beginning. -/
def enterL : Nat → List Nat → List TypeId → List AV → List AV × List Blk
  | _, _, _, [] => ([], [])
  | id, ms, Ts, a :: as =>
    let z := lay C (ms.headD 0) (Ts.headD 0) id (id + 1) a
    let y := enterL (id + z.2.length) ms.tail Ts.tail as
    (z.1 :: y.1, z.2 ++ y.2)
/-- The references that a frame was handed. -/
def refE : Nat → List Nat → List TypeId → List (TypeId × AV)
  | _, _, [] => []
  | id, ms, T :: Ts =>
    let z := lay C (ms.headD 0) T id (id + 1) .u
    if ms.headD 0 = 1 then (T, z.1) :: refE (id + z.2.length) ms.tail Ts else refE (id + z.2.length) ms.tail Ts
abbrev Refs := List (TypeId × AV)
/-- What the frame hands back: results, then what its references hold. -/
def finish (n : FuncId) (f : Func) (re : Refs) (x : X) : Out :=
  match resL x.env x.st f.results.toList with
  | none => none
  | some as =>
    match passL C x.st ((rmL (C.rm n) f.resultTypes.toList).map (·.1) ++ re.map fun _ => 1) (f.resultTypes.toList ++ re.map (·.1)) (as ++ re.map (·.2)) with
    | none => none
    | some p => if as.length = f.resultTypes.size ∧ freeB p.2.2 p.2.1 = true then some p.1 else none
def sameRef : AV → AV → Bool
  | .p id [], .p id' [] => id == id'
  | .w e id, .w e' id' => e == e' && id == id'
  | _, _ => false
/-- A slice of an object's own. -/
def fieldR (S : List Blk) (a : AV) (j : Nat) : AV := match a with
  | .p id [] => (match S.getD id .dead with
    | .obj T v => if (C.own T).contains j = true then v.fld j else .u
    | _ => .u)
  | _ => .u
/-- And where the object is numbered anew. -/
def fieldN (S : List Blk) (a a' : AV) (j : Nat) : AV := match a, a' with
  | .p id [], .p t [] => (match S.getD id .dead with
    | .obj T v => (match v.fld j with
      | .w e _ => .w e (t + (1 + (C.own T).idxOf j))
      | _ => .u)
    | _ => .u)
  | _, _ => .u
/-- Where a region that is named begins: only what is kept stays, as if it were handed to a new frame. -/
def canonX (keep : List (Nat × Nat × TypeId)) (re : Refs) (x : X) : Option (Refs × X) :=
  let nk := keep.filter fun q => decide (q.2.1 < 10)
  let as := re.map (·.2) ++ nk.map fun q => x.env.getD q.1 .u
  let ms := (re.map fun _ => 1) ++ nk.map (·.2.1)
  let Ts := re.map (·.1) ++ nk.map (·.2.2)
  match passL C x.st ms Ts as with
  | none => none
  | some p =>
    if freeB p.2.2 p.2.1 = true ∧ (keep.all fun q => decide (q.2.1 < 10) || (decide (100 ≤ q.2.1) && (ms.getD ((q.2.1 - 100) / 16) 0 == 1 || ms.getD ((q.2.1 - 100) / 16) 0 == 4) && sameRef (fieldR C x.st (as.getD ((q.2.1 - 100) / 16) .u) ((q.2.1 - 100) % 16)) (x.env.getD q.1 .u)) || (decide (q.2.1 < 100) && (ms.getD (q.2.1 - 10) 0 == 1 || ms.getD (q.2.1 - 10) 0 == 2 || ms.getD (q.2.1 - 10) 0 == 4) && sameRef (as.getD (q.2.1 - 10) .u) (x.env.getD q.1 .u))) = true then
      let y := enterL C 0 ms Ts p.1
      some ((re.map (·.1)).zip y.1, ⟨(List.range x.env.length).map fun t => match keep.find? fun q => q.1 == t with
        | some q => if q.2.1 < 10 then y.1.getD (re.length + (nk.map (·.1)).idxOf t) .u else if q.2.1 < 100 then y.1.getD (q.2.1 - 10) .u else fieldN C x.st (as.getD ((q.2.1 - 100) / 16) .u) (y.1.getD ((q.2.1 - 100) / 16) .u) ((q.2.1 - 100) % 16)
        | none => .u, y.2⟩)
    else none
/-- A region, as `go` runs it. -/
def regD {α : Type} (call : CallF) (K : X → Option α) (ops : Array Oper) (draw : Bool) (x : X) : Option α :=
  let S := x.st ++ List.replicate (ops.toList.map fun o => slotsOf o.op).sum Blk.dead
  if draw = true then (if drawOk C ops.toList = true then opsD C call ops.toList K ops.toList (planOf C x.st.length x.env ops.toList) x.st.length x.env S [] else none)
  else opsD C call ops.toList K ops.toList [] x.st.length x.env S []
/-- What a body that was run on the caller's store leaves. -/
def finI {α : Type} (f : Func) (S : List Blk) (slot : Nat) (x : X) (K : KV α) : Option α :=
  match resL x.env x.st f.results.toList with
  | none => none
  | some as => match renum S slot as x.st with
    | none => none
    | some q => match mapO (renA (renI S slot q.1) 40) as with
      | none => none
      | some bs => if as.length = f.resultTypes.size then K (one bs) q.2 [] else none
abbrev GoF := (α : Type) → Bool → FuncId → Func → Refs → List It → X → (Refs → X → Option α) → Option α
/-- A function's body, run. -/
def callG (g : GoF) : CallF where
  f n args := match C.P.funcs[n]? with
    | none => none
    | some f => match f.body with
      | none => none
      | some c => let y := enterL C 0 (C.pm n) (parL f) args
        g (List AV) false n f (refE C 0 (C.pm n) (parL f)) [.code c] ⟨y.1 ++ List.replicate (f.ntmps - args.length) .u, y.2⟩ (finish C n f)
  s {α} n f S slot args K := match f.body with
    | none => none
    | some c => if args.length = f.params.size + f.nfree then g α true n f [] [.code c] ⟨args ++ List.replicate (f.ntmps - args.length) .u, S⟩ fun _ x => finI f S slot x K else none
def go : Nat → GoF
  | 0, _, _, _, _, _, _, _, _ => none
  | k + 1, α, inl, n, f, re, its, x, fin =>
    match its with
    | [] => fin re x
    | .blk _ :: rest => go k α inl n f re rest x fin
    | .lp c :: rest => go k α inl n f re (.code c :: .lp c :: rest) x fin
    | .code c :: rest => match c with
      | .skip => go k α inl n f re rest x fin
      | .region id ops draw => match (if inl = true then none else C.keep n id) with
        | none => regD C (callG C (go k)) (fun x => go k α inl n f re rest x fin) ops draw x
        | some ks => match canonX C ks re x with
          | none => none
          | some z => regD C (callG C (go k)) (fun x => go k α inl n f z.1 rest x fin) ops draw z.2
      | .seq a b => go k α inl n f re (.code a :: .code b :: rest) x fin
      | .cond c a b => match ev x.env c with
        | .b t => if t = true then go k α inl n f re (.code a :: rest) x fin else go k α inl n f re (.code b :: rest) x fin
        | _ => none
      | .block id c => go k α inl n f re (.code c :: .blk id :: rest) x fin
      | .loop c => go k α inl n f re (.code c :: .lp c :: rest) x fin
      | .exit id => match exitI id rest with | some r => go k α inl n f re r x fin | none => none
      | .ret => fin re x
      | _ => none
def callF (k : Nat) : CallF := callG C (go C k)
def call (k : Nat) : FuncId → List AV → Out := (callF C k).f
end
end Go.Proofs.Ytfnepeilccainaa.Den

/- Proved here: how an abstract value lies in memory, and what stays of that. Its condition: the program's type table is laid as the check 'layB' tells. -/
namespace Go.Proofs.Ytfnepeilccainaa.Den
open Go
set_option linter.unusedVariables false
set_option linter.unusedSimpArgs false
/-- Where a block of the frame's own lies. -/
inductive Place where
  | no
  | nil
  | obj (b : Nat) (T : TypeId)
  | arr (b o n c : Nat) (e : TypeId)
def Place.blk : Place → Option Nat
  | .obj b _ => some b
  | .arr b _ _ _ _ => some b
  | _ => none
abbrev Sig := Nat → Place
def noSig : Sig := fun _ => .no
section
variable (C : Cfg)
abbrev Cfg.sz (T : TypeId) : Nat := C.P.cellsOf T
def offs (fs : List Field) : Nat → Nat → Bool
  | o, j => match fs with
    | [] => true
    | f :: fs => f.offset == o && offs fs (o + C.sz f.type) (j + 1)
def layT (T : TypeId) : Bool := match C.und T with
  | some (.struct fs) => offs C fs.toList 0 0 && C.sz T == (fs.toList.map fun f => C.sz f.type).sum
  | some (.array n e) => C.sz T == n * C.sz e
  | some _ => C.sz T == 1
  | none => true
def layB : Bool := (List.range C.P.types.size).all fun T => layT C T
/-- The offset of a path. -/
def poff (T : TypeId) : List Nat → Nat
  | [] => 0
  | j :: path => match C.und T with
    | some (.struct fs) => match fs[j]? with
      | some f => f.offset + poff f.type path
      | none => 0
    | _ => 0
/-- A value has the shape of a type. -/
inductive Sh : TypeId → AV → Prop
  | i {T k n} : C.und T = some (.int k) → Sh T (.i k n)
  | b {T x} : C.und T = some .bool → Sh T (.b x)
  | s {T x} : C.und T = some .string → Sh T (.s x)
  | l {T e xs} : C.und T = some (.slice e) → Sh T (.l e xs)
  | w {T e id} : C.und T = some (.slice e) → Sh T (.w e id)
  | r {T e id off len} : C.und T = some (.slice e) → Sh T (.r e id off len)
  | z1 {T e} : C.und T = some (.slice e) → Sh T (.z 1)
  | p {T e id path} : C.und T = some (.pointer e) → Sh T (.p id path)
  | q {T e id idx path} : C.und T = some (.pointer e) → Sh T (.q id idx path)
  | at {T e T' a} : C.und T = some (.pointer e) → Sh T (.at T' a)
  | z0 {T e} : C.und T = some (.pointer e) → Sh T (.z 0)
  | fn {T x y z f a c} : C.und T = some (.func x y z) → Sh T (.fn f a c)
  | z2 {T x y z} : C.und T = some (.func x y z) → Sh T (.z 2)
  | z3 {T x y} : C.und T = some (.map x y) → Sh T (.z 3)
  | z4 {T x} : C.und T = some (.interface x) → Sh T (.z 4)
  | g {T fs as} : C.und T = some (.struct fs) → as.length = fs.size → (∀ (j : Nat) (f : Field) a, fs[j]? = some f → as[j]? = some a → Sh f.type a) → Sh T (.g as)
  | ga {T n e as} : C.und T = some (.array n e) → as.length = n → (∀ (j : Nat) a, as[j]? = some a → Sh e a) → Sh T (.g as)
/-- Data of a type: of its shape, and spelt so. -/
def Wt (T : TypeId) (a : AV) : Prop := Sh C T a ∧ view C C.P.depth T a = a
/-- How an abstract value's cells lie: what it reaches as data lies in the blocks of F, the rest where the signature says. -/
inductive R (w : World) (F : Nat → Prop) : Sig → AV → List Value → Prop
  | i {σ k n} : R w F σ (.i k n) [.int k n]
  | b {σ x} : R w F σ (.b x) [.bool x]
  | s {σ x} : R w F σ (.s x) [.string x]
  | g {σ fs} (css : List (List Value)) : css.length = fs.length → (∀ (j : Nat) a c, fs[j]? = some a → css[j]? = some c → R w F σ a c) → R w F σ (.g fs) css.flatten
  | l0 {σ e a cap} : R w F σ (.l e []) [.slice a 0 cap]
  | l {σ e xs b o cap} (cells : Nat → List Value) : F b → xs.length ≤ cap → (∀ (j : Nat) a, xs[j]? = some a → Wt C e a ∧ w.rangeAt b (o + j * C.sz e) (cells j) ∧ (cells j).length = C.sz e) →
      (∀ (j : Nat) a, xs[j]? = some a → R w F noSig a (cells j)) → R w F σ (.l e xs) [.slice (some ⟨b, o, none⟩) xs.length cap]
  | w {σ : Sig} {e id b o n c cap} : σ id = .arr b o n c e → n ≤ cap → cap ≤ c → R w F σ (.w e id) [.slice (some ⟨b, o, none⟩) n cap]
  | w0 {σ : Sig} {e id ad} : σ id = .nil → (isU8 C e = true → ad = none) → R w F σ (.w e id) [.slice ad 0 0]
  | r {σ : Sig} {e id off len b o n c cap} : σ id = .arr b o n c e → off + len ≤ n → len ≤ cap → off + cap ≤ c → R w F σ (.r e id off len) [.slice (some ⟨b, o + off * C.sz e, none⟩) len cap]
  | r0 {σ : Sig} {e id off ad} : R w F σ (.r e id off 0) [.slice ad 0 0]
  | p {σ : Sig} {id path b T T'} : σ id = .obj b T → pty C T path = some T' → R w F σ (.p id path) [.pointer (some ⟨b, poff C T path, none⟩)]
  | pa {σ : Sig} {id b o n c e} : σ id = .arr b o n c e → R w F σ (.p id []) [.pointer (some ⟨b, o, none⟩)]
  | q {σ : Sig} {id idx path b o n c e T'} : σ id = .arr b o n c e → idx < n → pty C e path = some T' → R w F σ (.q id idx path) [.pointer (some ⟨b, o + idx * C.sz e + poff C e path, none⟩)]
  | at {σ T a b o cs} : F b → Wt C T a → w.rangeAt b o cs → cs.length = C.sz T → R w F noSig a cs → R w F σ (.at T a) [.pointer (some ⟨b, o, none⟩)]
  | z0 {σ} : R w F σ (.z 0) [.pointer none]
  | z1 {σ} : R w F σ (.z 1) [.slice none 0 0]
  | z8 {σ ad} : R w F σ (.z 8) [.slice ad 0 0]
  | z2 {σ} : R w F σ (.z 2) [.nilFunc]
  | z3 {σ} : R w F σ (.z 3) [.map none]
  | z4 {σ} : R w F σ (.z 4) [.nilIface]
  | fn {σ f as bs} (cs ds : List Value) : cs.length = as.length → ds.length = bs.length → (∀ (j : Nat) a c, as[j]? = some a → cs[j]? = some c → R w F σ a [c]) → (∀ (j : Nat) a c, bs[j]? = some a → ds[j]? = some c → R w F σ a [c]) → R w F σ (.fn f as bs) [.func (.func f) cs.toArray ds.toArray]
variable {C}
theorem rangeAt_keep {w w' : World} {b o : Nat} {cs : List Value} (h : w.rangeAt b o cs) (he : w'.heap[b]? = w.heap[b]?) : w'.rangeAt b o cs := fun j v hv => by
  rw [← h j v hv]
  unfold World.cell?
  rw [he]
/-- What lies stays lying where the blocks of F stay, and the signature says more. -/
theorem R.mono {w w' : World} {F F' : Nat → Prop} (hk : ∀ b, F b → w'.heap[b]? = w.heap[b]?) (hF : ∀ b, F b → F' b) {σ : Sig} {a : AV} {cs : List Value} (h : R C w F σ a cs) :
    ∀ σ' : Sig, (∀ id, σ id ≠ .no → σ' id = σ id) → R C w' F' σ' a cs := by
  induction h with
  | i => exact fun _ _ => .i
  | b => exact fun _ _ => .b
  | s => exact fun _ _ => .s
  | g css h1 h2 ih => exact fun σ' hσ => .g css h1 fun j a c ha hc => ih j a c ha hc σ' hσ
  | l0 => exact fun _ _ => .l0
  | l cells h1 h2 h3 h4 ih => exact fun σ' hσ => .l cells (hF _ h1) h2 (fun j a ha => ⟨(h3 j a ha).1, rangeAt_keep (h3 j a ha).2.1 (hk _ h1), (h3 j a ha).2.2⟩) fun j a ha => ih j a ha noSig fun _ h => absurd rfl h
  | w h1 h2 h3 => exact fun σ' hσ => .w ((hσ _ (by rw [h1]; simp)).trans h1) h2 h3
  | w0 h1 h2 => exact fun σ' hσ => .w0 ((hσ _ (by rw [h1]; simp)).trans h1) h2
  | r h1 h2 h3 h4 => exact fun σ' hσ => .r ((hσ _ (by rw [h1]; simp)).trans h1) h2 h3 h4
  | r0 => exact fun _ _ => .r0
  | p h1 h2 => exact fun σ' hσ => .p ((hσ _ (by rw [h1]; simp)).trans h1) h2
  | pa h1 => exact fun σ' hσ => .pa ((hσ _ (by rw [h1]; simp)).trans h1)
  | q h1 h2 h3 => exact fun σ' hσ => .q ((hσ _ (by rw [h1]; simp)).trans h1) h2 h3
  | «at» h1 h2 h3 h4 h5 ih => exact fun σ' hσ => .at (hF _ h1) h2 (rangeAt_keep h3 (hk _ h1)) h4 (ih noSig fun _ h => absurd rfl h)
  | z0 => exact fun _ _ => .z0
  | z1 => exact fun _ _ => .z1
  | z8 => exact fun _ _ => .z8
  | z2 => exact fun _ _ => .z2
  | z3 => exact fun _ _ => .z3
  | z4 => exact fun _ _ => .z4
  | fn cs ds h1 h2 h3 h4 ih1 ih2 => exact fun σ' hσ => .fn cs ds h1 h2 (fun j a c ha hc => ih1 j a c ha hc σ' hσ) fun j a c ha hc => ih2 j a c ha hc σ' hσ
end
end Go.Proofs.Ytfnepeilccainaa.Den

/- Proved here: layouts and paths; when a world bears an evaluator's store, and what a step may turn. Its condition: the program's type table is laid as the check 'layB' tells. -/
namespace Go.Proofs.Ytfnepeilccainaa.Den
open Go
set_option linter.unusedVariables false
set_option linter.unusedSimpArgs false
section
variable {C : Cfg}
theorem und_lt {T : TypeId} {d : TypeDesc} (h : C.und T = some d) : T < C.P.types.size := by
  unfold Cfg.und at h
  by_cases hT : T < C.P.types.size
  · exact hT
  · rw [if_neg hT] at h; cases h
theorem und_P {T : TypeId} {d : TypeDesc} (h : C.und T = some d) : C.P.underlying T = some d := by
  unfold Cfg.und at h
  rw [if_pos (und_lt h)] at h
  exact h
theorem lay_at (hl : layB C = true) {T : TypeId} {d : TypeDesc} (h : C.und T = some d) : layT C T = true := by
  unfold layB at hl
  rw [List.all_eq_true] at hl
  exact hl T (List.mem_range.mpr (und_lt h))
theorem offs_at : ∀ (fs : List Field) (o k : Nat), offs C fs o k = true → ∀ (j : Nat) f, fs[j]? = some f → f.offset = o + ((fs.take j).map fun f => C.sz f.type).sum
  | [], _, _, _, j, f, hf => by simp at hf
  | g :: fs, o, k, h, j, f, hf => by
    simp only [offs, Bool.and_eq_true, beq_iff_eq] at h
    cases j with
    | zero =>
      simp only [List.getElem?_cons_zero, Option.some.injEq] at hf
      subst hf
      simp [h.1]
    | succ j =>
      simp only [List.getElem?_cons_succ] at hf
      have := offs_at fs _ _ h.2 j f hf
      simp only [List.take_succ_cons, List.map_cons, List.sum_cons]
      omega
theorem lay_struct (hl : layB C = true) {T : TypeId} {fs : Array Field} (h : C.und T = some (.struct fs)) :
    C.sz T = (fs.toList.map fun f => C.sz f.type).sum ∧ ∀ (j : Nat) f, fs[j]? = some f → f.offset = ((fs.toList.take j).map fun f => C.sz f.type).sum := by
  have := lay_at hl h
  unfold layT at this
  rw [h] at this
  simp only [Bool.and_eq_true, beq_iff_eq] at this
  refine ⟨this.2, fun j f hf => ?_⟩
  have h1 := offs_at fs.toList 0 0 this.1 j f (by rw [Array.getElem?_toList]; exact hf)
  omega
theorem lay_array (hl : layB C = true) {T n e : Nat} (h : C.und T = some (.array n e)) : C.sz T = n * C.sz e := by
  have := lay_at hl h
  unfold layT at this
  rw [h] at this
  simpa using this
theorem lay_one (hl : layB C = true) {T : TypeId} {d : TypeDesc} (h : C.und T = some d) (h1 : ∀ fs, d ≠ .struct fs) (h2 : ∀ n e, d ≠ .array n e) : C.sz T = 1 := by
  have := lay_at hl h
  unfold layT at this
  rw [h] at this
  cases d <;> first | (exact absurd rfl (h1 _)) | (exact absurd rfl (h2 _ _)) | (simpa using this)
/-- The cells of lists of cells. -/
theorem flat_at : ∀ (css : List (List Value)) (szs : List Nat), css.length = szs.length → (∀ (j : Nat) c n, css[j]? = some c → szs[j]? = some n → c.length = n) → css.flatten.length = szs.sum ∧
    ∀ (j : Nat) c, css[j]? = some c → (css.flatten.drop (szs.take j).sum).take c.length = c
  | [], [], _, _ => ⟨rfl, fun j c h => by simp at h⟩
  | [], _ :: _, h, _ => by simp at h
  | _ :: _, [], h, _ => by simp at h
  | c :: css, n :: szs, hl, h => by
    have h0 : c.length = n := h 0 c n rfl rfl
    obtain ⟨h1, h2⟩ := flat_at css szs (by simpa using hl) (fun j c' n' hc hn => h (j + 1) c' n' (by simpa using hc) (by simpa using hn))
    refine ⟨by simp [h1, h0], fun j c' hc => ?_⟩
    cases j with
    | zero =>
      simp only [List.getElem?_cons_zero, Option.some.injEq] at hc
      subst hc
      simp
    | succ j =>
      simp only [List.getElem?_cons_succ] at hc
      have := h2 j c' hc
      simp only [List.take_succ_cons, List.sum_cons, List.flatten_cons]
      rw [← h0, List.drop_append, List.drop_eq_nil_of_le (by omega), List.nil_append, Nat.add_sub_cancel_left]
      exact this
theorem getElem?_lt {α : Type} {l : List α} {j : Nat} {a : α} (h : l[j]? = some a) : j < l.length := by
  obtain ⟨h, _⟩ := List.getElem?_eq_some_iff.mp h
  exact h
theorem getElem?_of_lt {α : Type} {l : List α} {j : Nat} (h : j < l.length) : ∃ a, l[j]? = some a := ⟨l[j], List.getElem?_eq_getElem h⟩
/-- A value of a type has its cells. -/
theorem sh_len (hl : layB C = true) {T : TypeId} {a : AV} (h : Sh C T a) : ∀ {w : World} {F : Nat → Prop} {σ : Sig} {cs : List Value}, R C w F σ a cs → cs.length = C.sz T := by
  induction h with
  | g hu hn hf ih =>
    rename_i T fs as
    intro w F σ cs hr
    cases hr with
    | g css h1 h2 =>
      rw [(lay_struct hl hu).1]
      refine (flat_at css _ (by simp [h1, hn]) fun j c n hc hn' => ?_).1
      have hj := getElem?_lt hc
      obtain ⟨a, ha⟩ := getElem?_of_lt (l := as) (j := j) (by omega)
      obtain ⟨f, hf'⟩ : ∃ f, fs[j]? = some f := ⟨fs[j]'(by omega), Array.getElem?_eq_getElem (by omega)⟩
      have := ih j f a hf' ha (h2 j a c ha hc)
      rw [List.getElem?_map, Array.getElem?_toList, hf'] at hn'
      simp only [Option.map_some, Option.some.injEq] at hn'
      omega
  | ga hu hn hf ih =>
    rename_i T n e as
    intro w F σ cs hr
    cases hr with
    | g css h1 h2 =>
      rw [lay_array hl hu]
      have := (flat_at css (List.replicate n (C.sz e)) (by simp [h1, hn]) fun j c m hc hm => ?_).1
      · rw [this]; simp
      · have hj := getElem?_lt hc
        obtain ⟨a, ha⟩ := getElem?_of_lt (l := as) (j := j) (by omega)
        have := ih j a ha (h2 j a c ha hc)
        have hm := List.mem_of_getElem? hm
        simp only [List.mem_replicate] at hm
        omega
  | _ hu => intro w F σ cs hr; rw [lay_one hl hu (by simp) (by simp)]; cases hr <;> rfl
theorem sh_sound : ∀ (d : Nat) (T : TypeId) (a : AV), sh C d T a = true → Sh C T a
  | 0, _, _, h => by simp [sh] at h
  | d + 1, T, a, h => by
    unfold sh at h
    split at h <;> try (cases h; done)
    all_goals first
      | (simp only [beq_iff_eq] at h; subst h; first | exact .i (by assumption) | exact .l (by assumption) | exact .w (by assumption) | exact .r (by assumption) | exact .z1 (by assumption) | exact .z0 (by assumption) | exact .z2 (by assumption))
      | exact .b (by assumption)
      | exact .s (by assumption)
      | exact .p (by assumption)
      | exact .q (by assumption)
      | exact .at (by assumption)
      | exact .fn (by assumption)
      | skip
    · rename_i hu
      simp only [Bool.and_eq_true, beq_iff_eq, List.all_eq_true] at h
      refine .g hu h.1 fun j f a hf ha => sh_sound d f.type a (h.2 (f, a) ?_)
      refine List.mem_of_getElem? (i := j) ?_
      rw [List.getElem?_zip_eq_some]
      exact ⟨by rw [Array.getElem?_toList]; exact hf, ha⟩
    · rename_i hu
      simp only [Bool.and_eq_true, beq_iff_eq, List.all_eq_true] at h
      exact .ga hu h.1 fun j a ha => sh_sound d _ a (h.2 a (List.mem_of_getElem? ha))
theorem fld_at {fs : List AV} {j : Nat} {a : AV} (h : fs[j]? = some a) : (AV.g fs).fld j = a := by simp [AV.fld, List.getD_eq_getElem?_getD, h]
/-- What lies at a path. -/
theorem path_at (hl : layB C = true) {w : World} {F : Nat → Prop} {σ : Sig} : ∀ (path : List Nat) (T T' : TypeId) (a : AV) (cs : List Value), Sh C T a → R C w F σ a cs → pty C T path = some T' →
    ∃ cs', R C w F σ (getPath a path) cs' ∧ Sh C T' (getPath a path) ∧ poff C T path + C.sz T' ≤ cs.length ∧ cs' = (cs.drop (poff C T path)).take (C.sz T')
  | [], T, T', a, cs, hs, hr, hp => by
    simp only [pty, Option.some.injEq] at hp
    subst hp
    have := sh_len hl hs hr
    exact ⟨cs, hr, hs, by simp [poff, this], by simp [poff, ← this]⟩
  | j :: path, T, T', a, cs, hs, hr, hp => by
    simp only [pty] at hp
    split at hp
    · rename_i fs hu
      split at hp
      · rename_i f hf
        obtain ⟨as, rfl, hn, hfs⟩ : ∃ as, a = .g as ∧ as.length = fs.size ∧ ∀ (j : Nat) (f : Field) a, fs[j]? = some f → as[j]? = some a → Sh C f.type a := by
          cases hs with
          | g hu' hn hf =>
            rw [hu] at hu'
            obtain rfl := TypeDesc.struct.inj (Option.some.inj hu')
            exact ⟨_, rfl, hn, hf⟩
          | ga hu' => rw [hu] at hu'; simp at hu'
          | _ hu' => rw [hu] at hu'; simp at hu'
        have hj : j < fs.size := by
          by_cases q : j < fs.size
          · exact q
          · rw [Array.getElem?_eq_none (by omega)] at hf; cases hf
        obtain ⟨a, ha⟩ := getElem?_of_lt (l := as) (j := j) (by omega)
        cases hr with
        | g css h1 h2 =>
          obtain ⟨c, hc⟩ := getElem?_of_lt (l := css) (j := j) (by omega)
          have hlen : ∀ (j : Nat) c n, css[j]? = some c → (fs.toList.map fun f => C.sz f.type)[j]? = some n → c.length = n := fun j c n hc hn' => by
            have hj := getElem?_lt hc
            obtain ⟨a, ha⟩ := getElem?_of_lt (l := as) (j := j) (by omega)
            obtain ⟨f, hf'⟩ : ∃ f, fs[j]? = some f := ⟨fs[j]'(by omega), Array.getElem?_eq_getElem (by omega)⟩
            have := sh_len hl (hfs j f a hf' ha) (h2 j a c ha hc)
            rw [List.getElem?_map, Array.getElem?_toList, hf'] at hn'
            simp only [Option.map_some, Option.some.injEq] at hn'
            omega
          obtain ⟨f1, f2⟩ := flat_at css _ (by simp [h1, hn]) hlen
          obtain ⟨cs', r1, r2, r3, r4⟩ := path_at hl path f.type T' a c (hfs j f a hf ha) (h2 j a c ha hc) hp
          have ho := (lay_struct hl hu).2 j f hf
          have hcl := hlen j c (C.sz f.type) hc (by rw [List.getElem?_map, Array.getElem?_toList, hf]; rfl)
          have hfc := f2 j c hc
          rw [← List.map_take, ← ho] at hfc
          have hbig : f.offset + c.length ≤ css.flatten.length := by
            have := congrArg List.length hfc
            simp only [List.length_take, List.length_drop] at this
            have hc0 : c.length ≠ 0 ∨ c.length = 0 := by omega
            rcases hc0 with h | h
            · omega
            · rw [f1, h, ho]
              have : ∀ (l : List Nat) k, (l.take k).sum ≤ l.sum := fun l k => by
                conv => rhs; rw [← List.take_append_drop k l]
                rw [List.sum_append]; omega
              rw [List.map_take]
              have := this (fs.toList.map fun f => C.sz f.type) j
              omega
          refine ⟨cs', ?_, ?_, ?_, ?_⟩
          · simp only [getPath, fld_at ha]; exact r1
          · simp only [getPath, fld_at ha]; exact r2
          · simp only [poff, hu, hf]; omega
          · simp only [poff, hu, hf]
            rw [r4, ← hfc, List.drop_take, List.take_take, List.drop_drop]
            congr 1
            omega
      · cases hp
    · cases hp
end
end Go.Proofs.Ytfnepeilccainaa.Den

/- Proved here: parts set, data read again; when a world bears an evaluator's store, and what a step may turn. Its condition: the program's type table is laid as the check 'layB' tells. -/
namespace Go.Proofs.Ytfnepeilccainaa.Den
open Go
set_option linter.unusedVariables false
set_option linter.unusedSimpArgs false
section
variable {C : Cfg}
theorem set_flat : ∀ (css : List (List Value)) (j : Nat) (c c' : List Value), css[j]? = some c → c'.length = c.length → (css.set j c').flatten = css.flatten.take ((css.take j).map List.length).sum ++ c' ++ css.flatten.drop (((css.take j).map List.length).sum + c.length)
  | [], j, c, c', h, _ => by simp at h
  | d :: css, 0, c, c', h, hl => by
    simp only [List.getElem?_cons_zero, Option.some.injEq] at h
    subst h
    simp
  | d :: css, j + 1, c, c', h, hl => by
    simp only [List.getElem?_cons_succ] at h
    have := set_flat css j c c' h hl
    simp only [List.set_cons_succ, List.flatten_cons, this, List.take_succ_cons, List.map_cons, List.sum_cons]
    rw [List.take_append, List.drop_append, List.take_of_length_le (by omega : d.length ≤ d.length + _), List.drop_eq_nil_of_le (by omega : d.length ≤ d.length + _ + c.length)]
    simp only [Nat.add_sub_cancel_left, List.append_assoc, List.nil_append]
    rw [show d.length + ((css.take j).map List.length).sum + c.length - d.length = ((css.take j).map List.length).sum + c.length by omega]
theorem sum_take_le : ∀ (l : List Nat) (k : Nat), (l.take k).sum ≤ l.sum := fun l k => by
  conv => rhs; rw [← List.take_append_drop k l]
  rw [List.sum_append]; omega
/-- A struct's parts. -/
structure Parts (C : Cfg) (w : World) (F : Nat → Prop) (σ : Sig) (fs : Array Field) (as : List AV) (css : List (List Value)) : Prop where
  n : as.length = fs.size
  m : css.length = as.length
  sh : ∀ (j : Nat) (f : Field) a, fs[j]? = some f → as[j]? = some a → Sh C f.type a
  r : ∀ (j : Nat) a c, as[j]? = some a → css[j]? = some c → R C w F σ a c
theorem Parts.len (hl : layB C = true) {w : World} {F : Nat → Prop} {σ : Sig} {fs : Array Field} {as : List AV} {css : List (List Value)} (h : Parts C w F σ fs as css) {j : Nat} {f : Field} {c : List Value} (hf : fs[j]? = some f) (hc : css[j]? = some c) : c.length = C.sz f.type := by
  have hj := getElem?_lt hc
  obtain ⟨a, ha⟩ := getElem?_of_lt (l := as) (j := j) (by rw [← h.m]; exact hj)
  exact sh_len hl (h.sh j f a hf ha) (h.r j a c ha hc)
theorem Parts.at_ {w : World} {F : Nat → Prop} {σ : Sig} {fs : Array Field} {as : List AV} {css : List (List Value)} (h : Parts C w F σ fs as css) {j : Nat} {f : Field} (hf : fs[j]? = some f) : ∃ a c, as[j]? = some a ∧ css[j]? = some c := by
  have hj : j < fs.size := by
    by_cases q : j < fs.size
    · exact q
    · rw [Array.getElem?_eq_none (by omega)] at hf; cases hf
  obtain ⟨a, ha⟩ := getElem?_of_lt (l := as) (j := j) (by rw [h.n]; exact hj)
  obtain ⟨c, hc⟩ := getElem?_of_lt (l := css) (j := j) (by rw [h.m, h.n]; exact hj)
  exact ⟨a, c, ha, hc⟩
theorem Parts.off (hl : layB C = true) {w : World} {F : Nat → Prop} {σ : Sig} {T : TypeId} {fs : Array Field} {as : List AV} {css : List (List Value)} (h : Parts C w F σ fs as css) (hu : C.und T = some (.struct fs)) {j : Nat} {f : Field} (hf : fs[j]? = some f) : f.offset = ((css.take j).map List.length).sum := by
  rw [(lay_struct hl hu).2 j f hf]
  congr 1
  apply List.ext_getElem?
  intro i
  rw [List.getElem?_map, List.getElem?_map, List.getElem?_take, List.getElem?_take]
  by_cases hi : i < j
  · rw [if_pos hi, if_pos hi, Array.getElem?_toList]
    have hj : j < fs.size := by
      by_cases q : j < fs.size
      · exact q
      · rw [Array.getElem?_eq_none (by omega)] at hf; cases hf
    obtain ⟨g, hg⟩ : ∃ g, fs[i]? = some g := ⟨fs[i]'(by omega), Array.getElem?_eq_getElem (by omega)⟩
    obtain ⟨a, c, ha, hc⟩ := h.at_ hg
    rw [hg, hc, Option.map_some, Option.map_some, h.len hl hg hc]
  · rw [if_neg hi, if_neg hi]
    rfl
theorem Sh.parts {T : TypeId} {a : AV} {fs : Array Field} (hs : Sh C T a) (hu : C.und T = some (.struct fs)) {w : World} {F : Nat → Prop} {σ : Sig} {cs : List Value} (hr : R C w F σ a cs) : ∃ as css, a = .g as ∧ cs = css.flatten ∧ Parts C w F σ fs as css := by
  obtain ⟨as, rfl, hn, hfs⟩ : ∃ as, a = .g as ∧ as.length = fs.size ∧ ∀ (j : Nat) (f : Field) a, fs[j]? = some f → as[j]? = some a → Sh C f.type a := by
    cases hs with
    | g hu' hn hf =>
      rw [hu] at hu'
      obtain rfl := TypeDesc.struct.inj (Option.some.inj hu')
      exact ⟨_, rfl, hn, hf⟩
    | ga hu' => rw [hu] at hu'; simp at hu'
    | _ hu' => rw [hu] at hu'; simp at hu'
  cases hr with
  | g css h1 h2 => exact ⟨as, css, rfl, rfl, hn, h1, hfs, h2⟩
/-- A part set. -/
theorem set_path (hl : layB C = true) {w : World} {F : Nat → Prop} {σ : Sig} {T' : TypeId} {v : AV} {cv : List Value} (hv : Sh C T' v) (hrv : R C w F σ v cv) : ∀ (path : List Nat) (T : TypeId) (a : AV) (cs : List Value), Sh C T a → R C w F σ a cs → pty C T path = some T' →
    Sh C T (setPath v a path) ∧ R C w F σ (setPath v a path) (cs.take (poff C T path) ++ cv ++ cs.drop (poff C T path + C.sz T'))
  | [], T, a, cs, hs, hr, hp => by
    simp only [pty, Option.some.injEq] at hp
    subst hp
    have h1 := sh_len hl hs hr
    refine ⟨by cases a <;> exact hv, ?_⟩
    have : setPath v a [] = v := by cases a <;> rfl
    rw [this]
    simp only [poff, List.take_zero, List.nil_append, Nat.zero_add]
    rw [List.drop_eq_nil_of_le (by omega), List.append_nil]
    exact hrv
  | j :: path, T, a, cs, hs, hr, hp => by
    simp only [pty] at hp
    split at hp
    · rename_i fs hu
      split at hp
      · rename_i f hf
        obtain ⟨as, css, rfl, rfl, P⟩ := hs.parts hu hr
        obtain ⟨a, c, ha, hc⟩ := P.at_ hf
        obtain ⟨q1, q2⟩ := set_path hl hv hrv path f.type a c (P.sh j f a hf ha) (P.r j a c ha hc) hp
        obtain ⟨cs', r1, r2, r3, r4⟩ := path_at hl path f.type T' a c (P.sh j f a hf ha) (P.r j a c ha hc) hp
        have hgd : as.getD j .u = a := by simp [List.getD_eq_getElem?_getD, ha]
        have hja := getElem?_lt ha
        have hjc := getElem?_lt hc
        have hsp : setPath v (.g as) (j :: path) = .g (as.set j (setPath v a path)) := by simp only [setPath, hgd]
        rw [hsp]
        refine ⟨.g hu (by simp [P.n]) fun i g b hg hb => ?_, ?_⟩
        · by_cases e : j = i
          · subst e
            rw [List.getElem?_set_self hja] at hb
            obtain rfl := Option.some.inj hb
            rw [hf] at hg
            obtain rfl := Option.some.inj hg
            exact q1
          · rw [List.getElem?_set_ne e] at hb
            exact P.sh i g b hg hb
        · have hcv := sh_len hl hv hrv
          have hoff := P.off hl hu hf
          have hclen := P.len hl hf hc
          have hnew : (c.take (poff C f.type path) ++ cv ++ c.drop (poff C f.type path + C.sz T')).length = c.length := by
            simp only [List.length_append, List.length_take, List.length_drop]
            omega
          have hset := set_flat css j c _ hc hnew
          have hR : R C w F σ (.g (as.set j (setPath v a path))) (css.set j (c.take (poff C f.type path) ++ cv ++ c.drop (poff C f.type path + C.sz T'))).flatten := by
            refine .g _ (by simp [P.m]) fun i b d hb hd => ?_
            by_cases e : j = i
            · subst e
              rw [List.getElem?_set_self hja] at hb
              rw [List.getElem?_set_self hjc] at hd
              obtain rfl := Option.some.inj hb
              obtain rfl := Option.some.inj hd
              exact q2
            · rw [List.getElem?_set_ne e] at hb
              rw [List.getElem?_set_ne e] at hd
              exact P.r i b d hb hd
          have hcd : (css.flatten.drop f.offset).take c.length = c := by
            have := (flat_at css (css.map List.length) (by simp) fun j c n hc hn => by
              rw [List.getElem?_map, hc] at hn
              simp only [Option.map_some, Option.some.injEq] at hn
              exact hn).2 j c hc
            rw [← List.map_take, ← hoff] at this
            exact this
          rw [hset, ← hoff] at hR
          have e1 : poff C T (j :: path) = f.offset + poff C f.type path := by simp only [poff, hu, hf]
          rw [e1]
          have ht : css.flatten.take (f.offset + poff C f.type path) = css.flatten.take f.offset ++ c.take (poff C f.type path) := by
            rw [List.take_add]
            congr 1
            rw [← hcd, List.take_take]
            congr 1
            omega
          have hd : css.flatten.drop (f.offset + poff C f.type path + C.sz T') = c.drop (poff C f.type path + C.sz T') ++ css.flatten.drop (f.offset + c.length) := by
            have h1 : css.flatten.drop f.offset = c ++ css.flatten.drop (f.offset + c.length) := by
              conv => lhs; rw [← List.take_append_drop c.length (css.flatten.drop f.offset)]
              rw [hcd, List.drop_drop]
            rw [show f.offset + poff C f.type path + C.sz T' = f.offset + (poff C f.type path + C.sz T') by omega, ← List.drop_drop, h1, List.drop_append_of_le_length (by omega)]
          rw [ht, hd]
          simpa only [List.append_assoc] using hR
      · cases hp
    · cases hp
end
end Go.Proofs.Ytfnepeilccainaa.Den

/- Proved here: when a world bears an evaluator's store; data out of it. Its condition: the program's type table is laid as the check 'layB' tells. -/
namespace Go.Proofs.Ytfnepeilccainaa.Den
open Go
set_option linter.unusedVariables false
set_option linter.unusedSimpArgs false
section
variable {C : Cfg}
theorem ite_no {α : Type} {c : Prop} [Decidable c] {x : Option α} {y : α} (h : (if c then none else x) = some y) : ¬ c ∧ x = some y := by
  split at h
  · cases h
  · exact ⟨by assumption, h⟩
/-- Elements that lie in a row of the frame's own. A row of bytes is known by its type. -/
def ArrAt (C : Cfg) (w : World) (F : Nat → Prop) (e : TypeId) (xs : List AV) (b o c : Nat) : Prop :=
  xs.length ≤ c ∧ ∃ (cur : Array Value) (t : {t : TypeId // isU8 C e = true → t = e}), w.heap[b]? = some (.cells cur t.1 (0, 0)) ∧ o + c * C.sz e ≤ cur.size ∧ ∃ cells : Nat → List Value, ∀ (j : Nat) a, xs[j]? = some a → Wt C e a ∧ R C w F noSig a (cells j) ∧ (cells j).length = C.sz e ∧ w.rangeAt b (o + j * C.sz e) (cells j)
def ObjAt (C : Cfg) (w : World) (F : Nat → Prop) (σ : Sig) (T : TypeId) (a : AV) (b : Nat) : Prop :=
  Sh C T a ∧ ∃ (cur : Array Value) (_ : Unit), w.heap[b]? = some (.cells cur T (0, 0)) ∧ R C w F σ a cur.toList
def BlkAt (C : Cfg) (w : World) (F : Nat → Prop) (σ : Sig) : Blk → Place → Prop
  | .dead, _ => True
  | .obj T a, .obj b T' => T' = T ∧ ObjAt C w F σ T a b
  | .arr e xs, .arr b o n c e' => e' = e ∧ n = xs.length ∧ ArrAt C w F e xs b o c
  | .arr e xs, .nil => xs = []
  | _, _ => False
def live (S : List Blk) (id : Nat) : Prop := S.getD id .dead ≠ .dead
/-- A world bears a store. -/
structure Sim (C : Cfg) (F : Nat → Prop) (σ : Sig) (S : List Blk) (w : World) : Prop where
  blk : ∀ id, BlkAt C w F σ (S.getD id .dead) (σ id)
  inj : ∀ id id' b, live S id → live S id' → (σ id).blk = some b → (σ id').blk = some b → id = id'
  out : ∀ id b, live S id → (σ id).blk = some b → ¬ F b
  top : ∀ id, S.length ≤ id → σ id = .no
  fin : ∀ b, F b → b < w.heap.size
/-- What a step may turn. -/
structure Stp (F : Nat → Prop) (σ : Sig) (S : List Blk) (w : World) (F' : Nat → Prop) (σ' : Sig) (S' : List Blk) (w' : World) : Prop where
  os : w'.os = w.os
  tape : w'.tape = w.tape
  output : w'.output = w.output
  heap : w.heap.size ≤ w'.heap.size
  keep : ∀ b, b < w.heap.size → (∀ id, live S id → (σ id).blk ≠ some b) → w'.heap[b]? = w.heap[b]?
  grow : ∀ b, F b → F' b
  new : ∀ b, F' b → F b ∨ w.heap.size ≤ b ∨ ∃ id, live S id ∧ (σ id).blk = some b
  own : ∀ id b, live S' id → (σ' id).blk = some b → w.heap.size ≤ b ∨ ∃ id', live S id' ∧ (σ id').blk = some b
theorem Stp.refl {F : Nat → Prop} {σ : Sig} {S : List Blk} {w : World} : Stp F σ S w F σ S w :=
  ⟨rfl, rfl, rfl, Nat.le_refl _, fun _ _ _ => rfl, fun _ h => h, fun _ h => .inl h, fun id b h1 h2 => .inr ⟨id, h1, h2⟩⟩
theorem Stp.trans {F F1 F2 : Nat → Prop} {σ σ1 σ2 : Sig} {S S1 S2 : List Blk} {w w1 w2 : World} (h : Stp F σ S w F1 σ1 S1 w1) (k : Stp F1 σ1 S1 w1 F2 σ2 S2 w2) : Stp F σ S w F2 σ2 S2 w2 where
  os := k.os.trans h.os
  tape := k.tape.trans h.tape
  output := k.output.trans h.output
  heap := Nat.le_trans h.heap k.heap
  keep := fun b hb hn => by
    rw [k.keep b (Nat.lt_of_lt_of_le hb h.heap) (fun id hl he => ?_), h.keep b hb hn]
    rcases h.own id b hl he with q | ⟨id', q1, q2⟩
    · omega
    · exact hn id' q1 q2
  grow := fun b hb => k.grow b (h.grow b hb)
  new := fun b hb => by
    rcases k.new b hb with q | q | ⟨id, q1, q2⟩
    · exact h.new b q
    · exact .inr (.inl (Nat.le_trans h.heap q))
    · rcases h.own id b q1 q2 with r | r
      · exact .inr (.inl r)
      · exact .inr (.inr r)
  own := fun id b hl he => by
    rcases k.own id b hl he with q | ⟨id', q1, q2⟩
    · exact .inl (Nat.le_trans h.heap q)
    · exact h.own id' b q1 q2
theorem live_lt {S : List Blk} {id : Nat} (h : live S id) : id < S.length := by
  by_cases q : id < S.length
  · exact q
  · exact absurd (by simp [List.getD_eq_getElem?_getD, List.getElem?_eq_none (by omega : S.length ≤ id)]) h
/-- Data keeps from step to step. -/
theorem Stp.dat {F F' : Nat → Prop} {σ σ' : Sig} {S S' : List Blk} {w w' : World} (hs : Sim C F σ S w) (h : Stp F σ S w F' σ' S' w') : ∀ b, F b → w'.heap[b]? = w.heap[b]? := fun b hb =>
  h.keep b (hs.fin b hb) fun id hl he => hs.out id b hl he hb
/-! ### data out of the store -/
theorem map_fields (fs : Array Field) (as : List AV) (v : TypeId → AV → AV) (hn : as.length = fs.size) : (fs.toList.zipIdx.map fun f => v f.1.type ((AV.g as).fld f.2)) = as ↔ ∀ (j : Nat) (f : Field) a, fs[j]? = some f → as[j]? = some a → v f.type a = a := by
  have key : ∀ (j : Nat) (f : Field) a, fs[j]? = some f → as[j]? = some a → (fs.toList.zipIdx.map fun f => v f.1.type ((AV.g as).fld f.2))[j]? = some (v f.type a) := fun j f a hf ha => by
    rw [List.getElem?_map, List.getElem?_zipIdx, Array.getElem?_toList, hf]
    simp [fld_at ha]
  constructor
  · intro h j f a hf ha
    have := key j f a hf ha
    rw [h, ha] at this
    exact (Option.some.inj this).symm
  · intro h
    apply List.ext_getElem?
    intro j
    by_cases q : j < fs.size
    · obtain ⟨a, ha⟩ := getElem?_of_lt (l := as) (j := j) (by omega)
      have hf : fs[j]? = some (fs[j]'q) := Array.getElem?_eq_getElem q
      rw [key j _ a hf ha, ha, h j _ a hf ha]
    · rw [List.getElem?_eq_none (by simp; omega), List.getElem?_eq_none (by omega)]
theorem map_range (n : Nat) (as : List AV) (v : AV → AV) (hn : as.length = n) : ((List.range n).map fun j => v ((AV.g as).fld j)) = as ↔ ∀ (j : Nat) a, as[j]? = some a → v a = a := by
  have key : ∀ (j : Nat) a, as[j]? = some a → ((List.range n).map fun j => v ((AV.g as).fld j))[j]? = some (v a) := fun j a ha => by
    have := getElem?_lt ha
    rw [List.getElem?_map, List.getElem?_range (by omega)]
    simp [fld_at ha]
  constructor
  · intro h j a ha
    have := key j a ha
    rw [h, ha] at this
    exact (Option.some.inj this).symm
  · intro h
    apply List.ext_getElem?
    intro j
    by_cases q : j < n
    · obtain ⟨a, ha⟩ := getElem?_of_lt (l := as) (j := j) (by omega)
      rw [key j a ha, ha, h j a ha]
    · rw [List.getElem?_eq_none (by simp; omega), List.getElem?_eq_none (by omega)]
theorem view_mono : ∀ (d : Nat) (T : TypeId) (a : AV), Sh C T a → view C d T a = a → view C (d + 1) T a = a
  | 0, T, a, hs, h => by
    simp only [view] at h
    subst h
    cases hs
  | d + 1, T, a, hs, h => by
    cases hs with
    | g hu hn hf =>
      rename_i fs as
      simp only [view, hu, AV.g.injEq] at h ⊢
      have h1 := (map_fields fs as (view C d) hn).mp h
      exact (map_fields fs as (view C (d + 1)) hn).mpr fun j f a hf' ha => view_mono d f.type a (hf j f a hf' ha) (h1 j f a hf' ha)
    | ga hu hn hf =>
      rename_i n e as
      simp only [view, hu, AV.g.injEq] at h ⊢
      have h1 := (map_range n as (view C d e) hn).mp h
      exact (map_range n as (view C (d + 1) e) hn).mpr fun j a ha => view_mono d e a (hf j a ha) (h1 j a ha)
    | i hu | b hu | s hu | l hu | w hu | r hu | z1 hu | p hu | q hu | «at» hu | z0 hu | fn hu | z2 hu | z3 hu | z4 hu => simp only [view, hu] at h ⊢; exact h
theorem view_le {d d' : Nat} (hd : d ≤ d') {T : TypeId} {a : AV} (hs : Sh C T a) (h : view C d T a = a) : view C d' T a = a := by
  induction hd with
  | refl => exact h
  | step _ ih => exact view_mono _ T a hs ih
/-- What is read of a type's data, spelt by the type, is it. -/
theorem Wt.field {T : TypeId} {fs : Array Field} {as : List AV} (h : Wt C T (.g as)) (hu : C.und T = some (.struct fs)) {j : Nat} {f : Field} {a : AV} (hf : fs[j]? = some f) (ha : as[j]? = some a) : Wt C f.type a := by
  obtain ⟨hs, hv⟩ := h
  have hs' := hs
  cases hs with
  | g hu' hn hfs =>
    rw [hu] at hu'
    obtain rfl := TypeDesc.struct.inj (Option.some.inj hu')
    refine ⟨hfs j f a hf ha, ?_⟩
    cases hd : C.P.depth with
    | zero => rw [hd] at hv; simp [view] at hv
    | succ d =>
      rw [hd] at hv
      simp only [view, hu, AV.g.injEq] at hv
      exact view_mono d f.type a (hfs j f a hf ha) ((map_fields fs as (view C d) hn).mp hv j f a hf ha)
  | ga hu' => rw [hu] at hu'; simp at hu'
theorem R.keepF {F F' : Nat → Prop} (hF : ∀ b, F b → F' b) {σ : Sig} {w : World} {a : AV} {cs : List Value} (h : R C w F σ a cs) : R C w F' σ a cs := h.mono (fun _ _ => rfl) hF σ fun _ _ => rfl
/-- A row of the frame's own, laid open. -/
theorem ArrAt.open_ {F F' : Nat → Prop} (hF : ∀ b, F b → F' b) {σ : Sig} {w : World} {e : TypeId} {xs : List AV} {b o c : Nat} (h : ArrAt C w F e xs b o c) (hb : F' b) (off len cap : Nat) (h1 : off + len ≤ xs.length) (h2 : len ≤ cap) :
    R C w F' σ (.l e ((xs.drop off).take len)) [.slice (some ⟨b, o + off * C.sz e, none⟩) len cap] := by
  obtain ⟨hc, cur, t, hh, hz, cells, hx⟩ := h
  have hlen : ((xs.drop off).take len).length = len := by simp; omega
  have hget : ∀ (j : Nat) a, ((xs.drop off).take len)[j]? = some a → xs[off + j]? = some a := fun j a ha => by
    rw [List.getElem?_take] at ha
    split at ha
    · rw [List.getElem?_drop] at ha; exact ha
    · cases ha
  have := R.l (C := C) (w := w) (F := F') (σ := σ) (e := e) (xs := (xs.drop off).take len) (b := b) (o := o + off * C.sz e) (cap := cap) (fun j => cells (off + j)) hb (by omega) (fun j a ha => by
    obtain ⟨q1, q2, q3, q4⟩ := hx _ _ (hget j a ha)
    refine ⟨q1, ?_, q3⟩
    rw [show o + off * C.sz e + j * C.sz e = o + (off + j) * C.sz e by rw [Nat.add_mul]; omega]
    exact q4) (fun j a ha => (hx _ _ (hget j a ha)).2.1.keepF hF)
  rw [hlen] at this
  exact this
theorem ArrAt.all {F F' : Nat → Prop} (hF : ∀ b, F b → F' b) {σ : Sig} {w : World} {e : TypeId} {xs : List AV} {b o c : Nat} (h : ArrAt C w F e xs b o c) (hb : F' b) (cap : Nat) (h2 : xs.length ≤ cap) :
    R C w F' σ (.l e xs) [.slice (some ⟨b, o, none⟩) xs.length cap] := by
  have := h.open_ hF (σ := σ) hb 0 xs.length cap (by omega) h2
  simpa using this
theorem fzL_sound {f : TypeId → AV → Option (AV × List Nat)} {Q : TypeId → AV → AV → List Nat → Prop} (h : ∀ T a x ks, f T a = some (x, ks) → Q T a x ks) : ∀ (Ts : List TypeId) (as : List AV) (xs : List AV) (ks : List Nat), fzL f Ts as = some (xs, ks) →
    as.length = Ts.length ∧ xs.length = Ts.length ∧ ∀ (j : Nat) T a x, Ts[j]? = some T → as[j]? = some a → xs[j]? = some x → ∃ ks', (∀ id ∈ ks', id ∈ ks) ∧ Q T a x ks'
  | [], [], xs, ks, he => by
    simp only [fzL, Option.some.injEq, Prod.mk.injEq] at he
    obtain ⟨rfl, rfl⟩ := he
    exact ⟨rfl, rfl, fun j T a x hT => by simp at hT⟩
  | T :: Ts, a :: as, xs, ks, he => by
    simp only [fzL] at he
    obtain ⟨⟨x, k1⟩, h1, he⟩ := Option.bind_eq_some_iff.mp he
    obtain ⟨⟨ys, k2⟩, h2, he⟩ := Option.bind_eq_some_iff.mp he
    simp only [Option.some.injEq, Prod.mk.injEq] at he
    obtain ⟨rfl, rfl⟩ := he
    obtain ⟨q1, q2, q3⟩ := fzL_sound h Ts as ys k2 h2
    refine ⟨by simp [q1], by simp [q2], fun j T' a' x' hT ha hx => ?_⟩
    cases j with
    | zero =>
      simp only [List.getElem?_cons_zero, Option.some.injEq] at hT ha hx
      subst hT ha hx
      exact ⟨k1, fun id hid => List.mem_append_left _ hid, h _ _ _ _ h1⟩
    | succ j =>
      simp only [List.getElem?_cons_succ] at hT ha hx
      obtain ⟨ks', r1, r2⟩ := q3 j T' a' x' hT ha hx
      exact ⟨ks', fun id hid => List.mem_append_right _ (r1 id hid), r2⟩
  | [], _ :: _, xs, ks, he => by simp [fzL] at he
  | _ :: _, [], xs, ks, he => by simp [fzL] at he
theorem elems_w {F : Nat → Prop} {σ : Sig} {S : List Blk} {w : World} (hs : Sim C F σ S w) {F' : Nat → Prop} (hF : ∀ b, F b → F' b) {σ' : Sig} {a : AV} {xs : List AV} (he : elems S a = some xs) (hk : ∀ id ∈ ownId a, ∀ b, (σ id).blk = some b → F' b) {cs : List Value} (hr : R C w F σ a cs) {e : TypeId} (ht : elT a = some e ∨ elT a = none) : R C w F' σ' (.l e xs) cs := by
  cases a <;> simp only [elems] at he <;> try (cases he; done)
  case l e' ys =>
    obtain rfl := Option.some.inj he
    simp only [elT] at ht
    obtain rfl : e' = e := by rcases ht with h | h <;> simp at h; exact h
    cases hr with
    | l0 => exact .l0
    | l cells h1 h2 h3 h4 => exact .l cells (hF _ h1) h2 h3 fun j a ha => (h4 j a ha).keepF hF
  case z n =>
    match n, he, hr with
    | 0, he, _ => simp at he
    | 1, he, hr =>
      simp only [Option.some.injEq] at he
      subst he
      cases hr <;> exact .l0
    | 8, he, hr =>
      simp only [Option.some.injEq] at he
      subst he
      cases hr <;> exact .l0
    | 2, he, _ | 3, he, _ | 4, he, _ | 5, he, _ | 6, he, _ | 7, he, _ => simp at he
    | n + 9, he, _ => simp at he
  case w e' id =>
    simp only [elT] at ht
    obtain rfl : e' = e := by rcases ht with h | h <;> simp at h; exact h
    have hb := hs.blk id
    cases hS : S.getD id .dead <;> rw [hS] at he hb <;> simp only at he <;> try (cases he; done)
    rename_i e2 ys
    obtain rfl := Option.some.inj he
    cases hr with
    | w h1 h2 h3 =>
      rw [h1] at hb
      obtain ⟨rfl, rfl, hA⟩ := hb
      exact hA.all hF (hk id (by simp [ownId]) _ (by rw [h1]; rfl)) _ h2
    | w0 h1 =>
      rw [h1] at hb
      simp only [BlkAt] at hb
      subst hb
      exact .l0
  case r e' id off len =>
    simp only [elT] at ht
    obtain rfl : e' = e := by rcases ht with h | h <;> simp at h; exact h
    have hb := hs.blk id
    cases hS : S.getD id .dead <;> rw [hS] at he hb <;> simp only at he <;> try (cases he; done)
    rename_i e2 ys
    obtain rfl := Option.some.inj he
    cases hr with
    | r h1 h2 h3 h4 =>
      rw [h1] at hb
      obtain ⟨rfl, rfl, hA⟩ := hb
      exact hA.open_ hF (hk id (by simp [ownId]) _ (by rw [h1]; rfl)) off len _ h2 h3
    | r0 => simp only [List.take_zero]; exact .l0
/-- Data of a value, laid open. -/
theorem fz_sound (hl : layB C = true) {F : Nat → Prop} {σ : Sig} {S : List Blk} {w : World} (hs : Sim C F σ S w) {F' : Nat → Prop} (hF : ∀ b, F b → F' b) : ∀ (d : Nat) (T : TypeId) (a x : AV) (ks : List Nat), fz C S d T a = some (x, ks) → ∀ cs, (∀ id ∈ ks, ∀ b, (σ id).blk = some b → F' b) → R C w F σ a cs →
    Sh C T x ∧ view C d T x = x ∧ R C w F' noSig x cs
  | 0, T, a, x, ks, h => by simp [fz] at h
  | d + 1, T, a, x, ks, h => by
    intro cs hk hr
    unfold fz at h
    split at h
    · rename_i hu
      split at h
      · rename_i hkk
        simp only [Option.some.injEq, Prod.mk.injEq] at h
        obtain ⟨rfl, rfl⟩ := h
        subst hkk
        cases hr
        exact ⟨.i hu, by simp [view, hu, AV.int], .i⟩
      · cases h
    · rename_i hu
      simp only [Option.some.injEq, Prod.mk.injEq] at h
      obtain ⟨rfl, rfl⟩ := h
      cases hr
      exact ⟨.b hu, by simp [view, hu, AV.bool], .b⟩
    · rename_i hu
      simp only [Option.some.injEq, Prod.mk.injEq] at h
      obtain ⟨rfl, rfl⟩ := h
      cases hr
      exact ⟨.s hu, by simp [view, hu, AV.str], .s⟩
    · rename_i e e' xs hu
      split at h
      · rename_i he
        simp only [Option.some.injEq, Prod.mk.injEq] at h
        obtain ⟨rfl, rfl⟩ := h
        subst he
        exact ⟨.l hu, by simp [view, hu, AV.list], elems_w hs hF (a := .l e xs) rfl (by simp [ownId]) hr (.inl rfl)⟩
      · cases h
    · rename_i e hu
      simp only [Option.some.injEq, Prod.mk.injEq] at h
      obtain ⟨rfl, rfl⟩ := h
      exact ⟨.l hu, by simp [view, hu, AV.list], elems_w hs hF (a := .z 1) rfl (by simp [ownId]) hr (.inr rfl)⟩
    · rename_i e e' id hu
      split at h
      · rename_i he
        subst he
        obtain ⟨xs, h1, h⟩ := Option.bind_eq_some_iff.mp h
        simp only [Option.some.injEq, Prod.mk.injEq] at h
        obtain ⟨rfl, rfl⟩ := h
        exact ⟨.l hu, by simp [view, hu, AV.list], elems_w hs hF h1 (by simpa [ownId] using hk) hr (.inl rfl)⟩
      · cases h
    · rename_i e e' id off len hu
      split at h
      · rename_i he
        subst he
        obtain ⟨xs, h1, h⟩ := Option.bind_eq_some_iff.mp h
        simp only [Option.some.injEq, Prod.mk.injEq] at h
        obtain ⟨rfl, rfl⟩ := h
        exact ⟨.l hu, by simp [view, hu, AV.list], elems_w hs hF h1 (by simpa [ownId] using hk) hr (.inl rfl)⟩
      · cases h
    · rename_i fs as hu
      obtain ⟨⟨xs, k⟩, h1, h⟩ := Option.bind_eq_some_iff.mp h
      simp only [Option.some.injEq, Prod.mk.injEq] at h
      obtain ⟨rfl, rfl⟩ := h
      cases hr with
      | g css n1 n2 =>
        obtain ⟨m1, m2, m3⟩ := fzL_sound (Q := fun T a x ks => ∀ cs, (∀ id ∈ ks, ∀ b, (σ id).blk = some b → F' b) → R C w F σ a cs → Sh C T x ∧ view C d T x = x ∧ R C w F' noSig x cs) (fun T a x ks h => fz_sound hl hs hF d T a x ks h) _ _ _ _ h1
        simp only [List.length_map, Array.length_toList] at m1 m2
        have at_ : ∀ (j : Nat) (f : Field) x, fs[j]? = some f → xs[j]? = some x → ∃ c, css[j]? = some c ∧ Sh C f.type x ∧ view C d f.type x = x ∧ R C w F' noSig x c := fun j f x hf hx => by
          have hj := getElem?_lt hx
          obtain ⟨a, ha⟩ := getElem?_of_lt (l := as) (j := j) (by omega)
          obtain ⟨c, hc⟩ := getElem?_of_lt (l := css) (j := j) (by omega)
          obtain ⟨ks', q1, q2⟩ := m3 j f.type a x (by rw [List.getElem?_map, Array.getElem?_toList, hf]; rfl) ha hx
          exact ⟨c, hc, q2 c (fun id hid => hk id (q1 id hid)) (n2 j a c ha hc)⟩
        refine ⟨.g hu m2 fun j f x hf hx => ?_, ?_, .g css (by omega) fun j x c hx hc => ?_⟩
        · obtain ⟨c, _, q, _⟩ := at_ j f x hf hx; exact q
        · simp only [view, hu, AV.g.injEq]
          refine (map_fields fs xs (view C d) m2).mpr fun j f x hf hx => ?_
          obtain ⟨c, _, _, q, _⟩ := at_ j f x hf hx; exact q
        · have hj := getElem?_lt hx
          obtain ⟨c', hc', _, _, q⟩ := at_ j (fs[j]'(by omega)) x (Array.getElem?_eq_getElem (by omega)) hx
          rw [hc] at hc'
          obtain rfl := Option.some.inj hc'
          exact q
    · rename_i n e as hu
      obtain ⟨⟨xs, k⟩, h1, h⟩ := Option.bind_eq_some_iff.mp h
      simp only [Option.some.injEq, Prod.mk.injEq] at h
      obtain ⟨rfl, rfl⟩ := h
      cases hr with
      | g css n1 n2 =>
        obtain ⟨m1, m2, m3⟩ := fzL_sound (Q := fun T a x ks => ∀ cs, (∀ id ∈ ks, ∀ b, (σ id).blk = some b → F' b) → R C w F σ a cs → Sh C T x ∧ view C d T x = x ∧ R C w F' noSig x cs) (fun T a x ks h => fz_sound hl hs hF d T a x ks h) _ _ _ _ h1
        simp only [List.length_replicate] at m1 m2
        have at_ : ∀ (j : Nat) x, xs[j]? = some x → ∃ c, css[j]? = some c ∧ Sh C e x ∧ view C d e x = x ∧ R C w F' noSig x c := fun j x hx => by
          have hj := getElem?_lt hx
          obtain ⟨a, ha⟩ := getElem?_of_lt (l := as) (j := j) (by omega)
          obtain ⟨c, hc⟩ := getElem?_of_lt (l := css) (j := j) (by omega)
          obtain ⟨ks', q1, q2⟩ := m3 j e a x (by rw [List.getElem?_replicate, if_pos (by omega)]) ha hx
          exact ⟨c, hc, q2 c (fun id hid => hk id (q1 id hid)) (n2 j a c ha hc)⟩
        refine ⟨.ga hu m2 fun j x hx => ?_, ?_, .g css (by omega) fun j x c hx hc => ?_⟩
        · obtain ⟨c, _, q, _⟩ := at_ j x hx; exact q
        · simp only [view, hu, AV.g.injEq]
          refine (map_range n xs (view C d e) m2).mpr fun j x hx => ?_
          obtain ⟨c, _, _, q, _⟩ := at_ j x hx; exact q
        · obtain ⟨c', hc', _, _, q⟩ := at_ j x hx
          rw [hc] at hc'
          obtain rfl := Option.some.inj hc'
          exact q
    · cases h
end
end Go.Proofs.Ytfnepeilccainaa.Den

/- Proved here: reading and writing of the frame's own blocks, new ones, blocks laid open. Its condition: the program's type table is laid as the check 'layB' tells. -/
namespace Go.Proofs.Ytfnepeilccainaa.Den
open Go
set_option linter.unusedVariables false
set_option linter.unusedSimpArgs false
section
variable {C : Cfg}
/-- How a value lies in a temporary. -/
inductive VR (C : Cfg) (w : World) (F : Nat → Prop) (σ : Sig) : AV → Value → Prop
  | u {v} : VR C w F σ .u v
  | one {a v} : (∀ fs, a ≠ .g fs) → R C w F σ a [v] → VR C w F σ a v
  | agg {fs cs} : R C w F σ (.g fs) cs → VR C w F σ (.g fs) (.agg cs.toArray)
  | t {as} (vs : List Value) : vs.length = as.length → (∀ (j : Nat) a v, as[j]? = some a → vs[j]? = some v → VR C w F σ a v) → VR C w F σ (.t as) (.tuple vs.toArray)
theorem VR.mono {w w' : World} {F F' : Nat → Prop} (hk : ∀ b, F b → w'.heap[b]? = w.heap[b]?) (hF : ∀ b, F b → F' b) {σ σ' : Sig} (hσ : ∀ id, σ id ≠ .no → σ' id = σ id) {a : AV} {v : Value} (h : VR C w F σ a v) : VR C w' F' σ' a v := by
  induction h with
  | u => exact .u
  | one h1 h2 => exact .one h1 (h2.mono hk hF σ' hσ)
  | agg h => exact .agg (h.mono hk hF σ' hσ)
  | t vs h1 h2 ih => exact .t vs h1 ih
theorem R.plain {w : World} {F : Nat → Prop} {σ : Sig} {a : AV} {cs : List Value} (h : R C w F σ a cs) : ∀ c ∈ cs, c.oneCell' = true := by
  induction h with
  | @g σ fs css h1 h2 ih =>
    intro c hc
    obtain ⟨l, hl, hcl⟩ := List.mem_flatten.mp hc
    obtain ⟨j, hj⟩ := List.getElem?_of_mem hl
    have hlt := getElem?_lt hj
    obtain ⟨a, ha⟩ := getElem?_of_lt (l := fs) (j := j) (by omega)
    exact ih j a l ha hj c hcl
  | _ => intro c hc; simp only [List.mem_singleton] at hc; subst hc; rfl
theorem VR.cells {w : World} {F : Nat → Prop} {σ : Sig} {T : TypeId} {a : AV} {v : Value} (hs : Sh C T a) (h : VR C w F σ a v) : R C w F σ a v.cells.toList := by
  cases h with
  | u => cases hs
  | t => cases hs
  | agg h => exact h
  | one h1 h2 =>
    have := h2.plain v (by simp)
    have e : v.cells = #[v] := by cases v <;> simp_all [Value.cells, Value.oneCell']
    rw [e]
    exact h2
theorem sz_info {T : TypeId} {d : TypeDesc} (h : C.und T = some d) : (C.P.info? T).map (·.size) = some (C.sz T) := by
  have := und_P h
  unfold Program.underlying at this
  unfold Cfg.sz Program.cellsOf
  cases hi : C.P.info? T with
  | none => rw [hi] at this; cases this
  | some i => rfl
/-- What lies at an address is loaded. -/
theorem load_ok (hl : layB C = true) {w : World} {F : Nat → Prop} {σ : Sig} {T : TypeId} {a : AV} {cs : List Value} {b o : Nat} (hs : Sh C T a) (hr : R C w F σ a cs) (hc : w.rangeAt b o cs) :
    ∃ v, VR C w F σ a v ∧ (Instr.loadAt T (.pointer (some ⟨b, o, none⟩))).run C.P w = .ok v w := by
  have hlen := sh_len hl hs hr
  have row : ∀ d, C.und T = some d → d.isRow = true → (∃ fs, a = .g fs) → ∃ v, VR C w F σ a v ∧ (Instr.loadAt T (.pointer (some ⟨b, o, none⟩))).run C.P w = .ok v w := by
    rintro d hu hd ⟨fs, rfl⟩
    refine ⟨.agg cs.toArray, .agg hr, run_loadAt_mid w b o T cs d hc (und_P hu) hd (by rw [sz_info hu, hlen])⟩
  have one : ∀ d, C.und T = some d → d.isRow = false → (∀ fs, a ≠ .g fs) → (∃ v, cs = [v]) → ∃ v, VR C w F σ a v ∧ (Instr.loadAt T (.pointer (some ⟨b, o, none⟩))).run C.P w = .ok v w := by
    rintro d hu hd ha ⟨v, rfl⟩
    refine ⟨v, .one ha hr, ?_⟩
    have hcell : w.cell? ⟨b, o, none⟩ = some v := hc 0 v rfl
    have hagg : (isAgg T).run C.P w = .ok false w := by
      unfold isAgg
      rw [Sem.run_bind, run_underlying (und_P hu) w]
      cases d <;> simp_all
    simp [Instr.loadAt, Instr.sureAddr, loadVar, Sem.run_bind, hagg, load, Sem.run, hcell]
  cases hs with
  | g hu => exact row _ hu rfl ⟨_, rfl⟩
  | ga hu => exact row _ hu rfl ⟨_, rfl⟩
  | _ hu => exact one _ hu rfl (by simp) (by cases hr <;> exact ⟨_, rfl⟩)
theorem isAgg_store (hl : layB C = true) {w : World} {F : Nat → Prop} {σ : Sig} {T : TypeId} {a : AV} {v : Value} {cur : Array Value} {t : TypeId} {b o : Nat} (hs : Sh C T a) (hv : VR C w F σ a v) (hb : w.heap[b]? = some (.cells cur t (0, 0))) (ho : o + C.sz T ≤ cur.size) :
    v.cells.toList.length = C.sz T ∧ (Instr.storeAt T (.pointer (some ⟨b, o, none⟩)) v).run C.P w = .ok () (w.setRow b (cur.toList.take o ++ v.cells.toList ++ cur.toList.drop (o + C.sz T)).toArray) := by
  have hr := hv.cells hs
  have hlen := sh_len hl hs hr
  obtain ⟨d, hu⟩ : ∃ d, C.und T = some d := by cases hs <;> exact ⟨_, by assumption⟩
  refine ⟨hlen, ?_⟩
  have h1 := run_storeCells_at (P := C.P) b o t v.cells.toList 0 cur w hb (by omega) hr.plain
  have hi := sz_info hu
  cases hq : C.P.info? T with
  | none => rw [hq] at hi; cases hi
  | some i =>
    rw [hq] at hi
    simp only [Option.map_some, Option.some.injEq] at hi
    have h2 : v.cells.size = i.size := by rw [hi, ← hlen]; simp
    simp only [Nat.add_zero] at h1
    rw [hlen] at h1
    simp [Instr.storeAt, Instr.sureAddr, storeVar, Sem.run_bind, sizeOf, typeInfo, hq, h2, h1]
/-! ### the store turns -/
theorem BlkAt.mono {w w' : World} {F F' : Nat → Prop} {σ σ' : Sig} (hk : ∀ b, F b → w'.heap[b]? = w.heap[b]?) (hF : ∀ b, F b → F' b) (hσ : ∀ id, σ id ≠ .no → σ' id = σ id) {B : Blk} {p : Place} (hp : ∀ b, p.blk = some b → w'.heap[b]? = w.heap[b]?) (h : BlkAt C w F σ B p) : BlkAt C w' F' σ' B p := by
  cases B with
  | dead => exact trivial
  | obj T a =>
    cases p <;> simp only [BlkAt] at h <;> try exact h.elim
    obtain ⟨rfl, hs, cur, t, hh, hr⟩ := h
    exact ⟨rfl, hs, cur, t, by rw [hp _ rfl]; exact hh, hr.mono hk hF σ' hσ⟩
  | arr e xs =>
    cases p <;> simp only [BlkAt] at h <;> try exact h.elim
    · exact h
    · obtain ⟨rfl, rfl, hc, cur, t, hh, hz, cells, hx⟩ := h
      refine ⟨rfl, rfl, hc, cur, t, by rw [hp _ rfl]; exact hh, hz, cells, fun j a ha => ?_⟩
      obtain ⟨q1, q2, q3, q4⟩ := hx j a ha
      exact ⟨q1, q2.mono hk hF _ (fun _ h => absurd rfl h), q3, rangeAt_keep q4 (hp _ rfl)⟩
def Sig.put (σ : Sig) (id : Nat) (p : Place) : Sig := fun i => if i = id then p else σ i
theorem put_self {σ : Sig} {id : Nat} {p : Place} : σ.put id p id = p := if_pos rfl
theorem put_ne {σ : Sig} {id i : Nat} {p : Place} (h : i ≠ id) : σ.put id p i = σ i := if_neg h
theorem put_ext {σ : Sig} {id : Nat} {p : Place} (h : σ id = .no) : ∀ i, σ i ≠ .no → σ.put id p i = σ i := fun i hi => put_ne fun e => hi (e ▸ h)
theorem getD_set_self {S : List Blk} {id : Nat} {B : Blk} (h : id < S.length) : (S.set id B).getD id .dead = B := by simp [List.getD_eq_getElem?_getD, h]
theorem getD_set_ne {S : List Blk} {id i : Nat} {B : Blk} (h : i ≠ id) : (S.set id B).getD i .dead = S.getD i .dead := by
  simp only [List.getD_eq_getElem?_getD]
  rw [List.getElem?_set_ne (Ne.symm h)]
theorem heap_lt {w : World} {b : Nat} {o : Obj} (h : w.heap[b]? = some o) : b < w.heap.size := by
  by_cases q : b < w.heap.size
  · exact q
  · rw [Array.getElem?_eq_none (by omega)] at h; cases h
/-- A new block. -/
theorem Sim.alloc {F : Nat → Prop} {σ : Sig} {S : List Blk} {w : World} (hs : Sim C F σ S w) {slot : Nat} (hl : slot < S.length) (hd : S.getD slot .dead = .dead) (hσ : σ slot = .no) (o : Obj) (B : Blk) (p : Place) (hp : p.blk = some w.heap.size)
    (hB : BlkAt C (w.alloc o) F (σ.put slot p) B p) : Sim C F (σ.put slot p) (S.set slot B) (w.alloc o) ∧ Stp F σ S w F (σ.put slot p) (S.set slot B) (w.alloc o) := by
  have hheap : ∀ b, b < w.heap.size → (w.alloc o).heap[b]? = w.heap[b]? := fun b hb => by
    show (w.heap.push o)[b]? = _
    rw [Array.getElem?_push, if_neg (by omega)]
  have hsz : (w.alloc o).heap.size = w.heap.size + 1 := by
    show (w.heap.push o).size = _
    simp
  have hplt : ∀ id b, live S id → (σ id).blk = some b → b < w.heap.size := fun id b hlv hb => by
    have := hs.blk id
    unfold live at hlv
    cases hS : S.getD id .dead with
    | dead => exact absurd hS hlv
    | obj T a =>
      rw [hS] at this
      cases hσi : σ id <;> rw [hσi] at this hb <;> simp only [BlkAt] at this <;> try exact this.elim
      simp only [Place.blk, Option.some.injEq] at hb
      subst hb
      obtain ⟨_, _, cur, t, hh, _⟩ := this
      exact heap_lt hh
    | arr e xs =>
      rw [hS] at this
      cases hσi : σ id <;> rw [hσi] at this hb <;> simp only [BlkAt] at this <;> try exact this.elim
      · simp [Place.blk] at hb
      · simp only [Place.blk, Option.some.injEq] at hb
        subst hb
        obtain ⟨_, _, _, cur, t, hh, _⟩ := this
        exact heap_lt hh
  have hlive : ∀ id, live (S.set slot B) id → id ≠ slot → live S id := fun id h hne => by
    unfold live at *
    rwa [getD_set_ne hne] at h
  have hdead : ¬ live S slot := fun h => h hd
  refine ⟨⟨fun id => ?_, fun id id' b h1 h2 h3 h4 => ?_, fun id b h1 h2 hF => ?_, fun id hid => ?_, fun b hb => ?_⟩, ⟨rfl, rfl, rfl, by omega, fun b hb _ => hheap b hb, fun b h => h, fun b h => .inl h, fun id b h1 h2 => ?_⟩⟩
  · by_cases e : id = slot
    · subst e
      rw [getD_set_self hl, put_self]
      exact hB
    · rw [getD_set_ne e, put_ne e]
      by_cases hlv : live S id
      · exact (hs.blk id).mono (fun b hb => hheap b (hs.fin b hb)) (fun _ h => h) (put_ext hσ) fun b hb => hheap b (hplt id b hlv hb)
      · have : S.getD id .dead = .dead := Classical.byContradiction fun h => hlv h
        rw [this]
        exact trivial
  · by_cases e : id = slot
    · by_cases e' : id' = slot
      · rw [e, e']
      · rw [e, put_self, hp] at h3
        rw [put_ne e'] at h4
        have := hplt id' b (hlive id' h2 e') h4
        simp only [Option.some.injEq] at h3
        omega
    · by_cases e' : id' = slot
      · rw [e', put_self, hp] at h4
        rw [put_ne e] at h3
        have := hplt id b (hlive id h1 e) h3
        simp only [Option.some.injEq] at h4
        omega
      · rw [put_ne e] at h3
        rw [put_ne e'] at h4
        exact hs.inj id id' b (hlive id h1 e) (hlive id' h2 e') h3 h4
  · by_cases e : id = slot
    · rw [e, put_self, hp] at h2
      have := hs.fin b hF
      simp only [Option.some.injEq] at h2
      omega
    · rw [put_ne e] at h2
      exact hs.out id b (hlive id h1 e) h2 hF
  · rw [List.length_set] at hid
    rw [put_ne (by omega)]
    exact hs.top id hid
  · have := hs.fin b hb
    omega
  · by_cases e : id = slot
    · rw [e, put_self, hp] at h2
      simp only [Option.some.injEq] at h2
      exact .inl (by omega)
    · rw [put_ne e] at h2
      exact .inr ⟨id, hlive id h1 e, h2⟩
theorem Sim.lt {F : Nat → Prop} {σ : Sig} {S : List Blk} {w : World} (hs : Sim C F σ S w) {id b : Nat} (hlv : live S id) (hb : (σ id).blk = some b) : b < w.heap.size := by
  have := hs.blk id
  unfold live at hlv
  cases hS : S.getD id .dead with
  | dead => exact absurd hS hlv
  | obj T a =>
    rw [hS] at this
    cases hσi : σ id <;> rw [hσi] at this hb <;> simp only [BlkAt] at this <;> try exact this.elim
    simp only [Place.blk, Option.some.injEq] at hb
    subst hb
    obtain ⟨_, _, cur, t, hh, _⟩ := this
    exact heap_lt hh
  | arr e xs =>
    rw [hS] at this
    cases hσi : σ id <;> rw [hσi] at this hb <;> simp only [BlkAt] at this <;> try exact this.elim
    · simp [Place.blk] at hb
    · simp only [Place.blk, Option.some.injEq] at hb
      subst hb
      obtain ⟨_, _, _, cur, t, hh, _⟩ := this
      exact heap_lt hh
/-- A block of the frame's own, written. -/
theorem Sim.set {F : Nat → Prop} {σ : Sig} {S : List Blk} {w : World} (hs : Sim C F σ S w) {id b : Nat} (hlv : live S id) (hb : (σ id).blk = some b) (cells : Array Value) (B : Blk) (hB : BlkAt C (w.setRow b cells) F σ B (σ id)) :
    Sim C F σ (S.set id B) (w.setRow b cells) ∧ Stp F σ S w F σ (S.set id B) (w.setRow b cells) := by
  have hlt := live_lt hlv
  have hne : ∀ i, live S i → i ≠ id → ∀ c, (σ i).blk = some c → c ≠ b := fun i hi hn c hc e => hn (hs.inj i id c hi hlv hc (e ▸ hb))
  have hF : ∀ c, F c → c ≠ b := fun c hc e => hs.out id b hlv hb (e ▸ hc)
  have hlive : ∀ i, live (S.set id B) i → live S i := fun i h => by
    by_cases e : i = id
    · rw [e]; exact hlv
    · unfold live at *
      rwa [getD_set_ne e] at h
  refine ⟨⟨fun i => ?_, fun i i' c h1 h2 h3 h4 => hs.inj i i' c (hlive i h1) (hlive i' h2) h3 h4, fun i c h1 h2 => hs.out i c (hlive i h1) h2, fun i hi => hs.top i (by rw [List.length_set] at hi; exact hi), fun c hc => by rw [setRow_size]; exact hs.fin c hc⟩, ⟨rfl, rfl, rfl, by rw [setRow_size]; exact Nat.le_refl _, fun c hc hn => setRow_other w b c cells fun e => hn id hlv (by rw [hb, e]), fun _ h => h, fun _ h => .inl h, fun i c h1 h2 => .inr ⟨i, hlive i h1, h2⟩⟩⟩
  by_cases e : i = id
  · subst e
    rw [getD_set_self hlt]
    exact hB
  · rw [getD_set_ne e]
    by_cases hi : live S i
    · exact (hs.blk i).mono (fun c hc => setRow_other w b c cells (hF c hc)) (fun _ h => h) (fun _ _ => rfl) fun c hc => setRow_other w b c cells (hne i hi e c hc)
    · have : S.getD i .dead = .dead := Classical.byContradiction fun h => hi h
      rw [this]
      exact trivial
theorem getD_kill (ids : List Nat) (S : List Blk) (i : Nat) : (kill ids S).getD i .dead = if ids.contains i then .dead else S.getD i .dead := by
  unfold kill
  simp only [List.getD_eq_getElem?_getD, List.getElem?_map, List.getElem?_zipIdx]
  cases hS : S[i]? with
  | none => simp
  | some B => simp
theorem kill_length (ids : List Nat) (S : List Blk) : (kill ids S).length = S.length := by simp [kill]
theorem kill_nil (S : List Blk) : kill [] S = S := by
  apply List.ext_getElem?
  intro i
  unfold kill
  rw [List.getElem?_map, List.getElem?_zipIdx]
  cases S[i]? <;> simp
/-- The blocks of F, and those laid open. -/
def more (F : Nat → Prop) (σ : Sig) (S : List Blk) (ks : List Nat) : Nat → Prop := fun b => F b ∨ ∃ id, id ∈ ks ∧ live S id ∧ (σ id).blk = some b
/-- Blocks laid open: what was the frame's own is data. -/
theorem Sim.open_ {F : Nat → Prop} {σ : Sig} {S : List Blk} {w : World} (hs : Sim C F σ S w) (ks : List Nat) : Sim C (more F σ S ks) σ (kill ks S) w ∧ Stp F σ S w (more F σ S ks) σ (kill ks S) w := by
  have hlive : ∀ i, live (kill ks S) i → live S i ∧ ks.contains i = false := fun i h => by
    unfold live at *
    rw [getD_kill] at h
    cases hc : ks.contains i with
    | true => rw [hc] at h; exact absurd rfl h
    | false => rw [hc] at h; exact ⟨h, rfl⟩
  refine ⟨⟨fun i => ?_, fun i i' c h1 h2 => hs.inj i i' c (hlive i h1).1 (hlive i' h2).1, fun i c h1 h2 h3 => ?_, fun i hi => hs.top i (by rw [kill_length] at hi; exact hi), fun c hc => ?_⟩, ⟨rfl, rfl, rfl, Nat.le_refl _, fun _ _ _ => rfl, fun _ h => .inl h, fun c hc => ?_, fun i c h1 h2 => .inr ⟨i, (hlive i h1).1, h2⟩⟩⟩
  · rw [getD_kill]
    cases hc : ks.contains i with
    | true => exact trivial
    | false => exact (hs.blk i).mono (fun _ _ => rfl) (fun _ h => .inl h) (fun _ _ => rfl) fun _ _ => rfl
  · rcases h3 with h3 | ⟨j, hj, hlv, hb⟩
    · exact hs.out i c (hlive i h1).1 h2 h3
    · have e := hs.inj i j c (hlive i h1).1 hlv h2 hb
      subst e
      have := (hlive i h1).2
      simp at this
      exact this hj
  · rcases hc with hc | ⟨j, hj, hlv, hb⟩
    · exact hs.fin c hc
    · exact hs.lt hlv hb
  · rcases hc with hc | ⟨j, hj, hlv, hb⟩
    · exact .inl hc
    · exact .inr (.inr ⟨j, hlv, hb⟩)
end
end Go.Proofs.Ytfnepeilccainaa.Den
