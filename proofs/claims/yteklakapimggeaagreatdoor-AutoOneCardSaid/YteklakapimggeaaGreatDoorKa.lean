/- Proved here: a part of the proof, told one step at a time: DenA, DenB, DenC, DenD, DenE, DenF, DenG, DenH, DenI, DenIB, DenJ, DenK, DenL. No condition but those each theorem names. -/
import GoSem.Claim
import Derived.KernelRfl
import Derived.Orders
import Derived.Deep.MidRow
import Derived.Laws.CopyRow
import Derived.Laws.NewBlocks
import Derived.Below
import Derived.Calls
import Derived.Laws.StructEq
import Derived.Laws.Pointers
import Derived.Lib.Builder
import Derived.ChangeKeysEq
namespace Go.Proofs.YteklakapimggeaaGreatDoor.Den
open Go
set_option linter.unusedVariables false
set_option linter.unusedSimpArgs false
inductive AV where
 | u
 | i (k : IntKind) (n : Int)
 | b (x : Bool)
 | s (x : ByteArray)
 | g (fs : List AV)
 | t (vs : List AV)
 | l (e : TypeId) (xs : List AV)
 | w (e : TypeId) (id : Nat)
 | r (e : TypeId) (id off len : Nat)
 | p (id : Nat) (path : List Nat)
 | q (id idx : Nat) (path : List Nat)
 | at (T : TypeId) (a : AV)
 | z (kind : Nat)
 | fn (f : FuncId) (first cap : List AV)
 | m (id : Nat)
instance : Inhabited AV := ⟨.u⟩
inductive Blk where
 | dead
 | obj (T : TypeId) (a : AV)
 | arr (e : TypeId) (xs : List AV)
 | map (V : TypeId) (es : List (AV × AV))
instance : Inhabited Blk := ⟨.dead⟩
structure X where
 env : List AV
 st : List Blk
def AV.int : AV → Int
 | .i _ n => n
 | _ => 0
def AV.bool : AV → Bool
 | .b x => x
 | _ => false
def AV.str : AV → ByteArray
 | .s x => x
 | _ => ⟨#[]⟩
def AV.list : AV → List AV
 | .l _ xs => xs
 | _ => []
def AV.fld (a : AV) (j : Nat) : AV := match a with
 | .g fs => fs.getD j .u
 | _ => .u
def AV.pt : AV → AV
 | .at _ a => a
 | _ => .u
def AV.tup (a : AV) (j : Nat) : AV := match a with
 | .t vs => vs.getD j .u
 | _ => .u
structure Cfg where
 P : Program
 keep : Nat → Nat → Option (List (Nat × Nat × TypeId))
 pm : Nat → List Nat
 rm : Nat → List Nat
 own : Nat → List Nat
 prim : Nat → Option (List AV → Option (List AV))
 primS : Nat → Option (List Blk → Nat → List AV → Option (Bool × AV × List Blk × List Nat)) := fun _ => none
 inl : Nat → Option (List AV → Bool) := fun _ => none
 ext : Nat → Option (Nat × IntKind) := fun _ => none
 idle : Nat → Bool := fun _ => false
 raw : Nat → Bool := fun _ => false
 tb : List (Nat × Array Value) := []
 lax : Bool := false
section
variable (C : Cfg)
def Cfg.und (T : TypeId) : Option TypeDesc := if T < C.P.types.size then C.P.underlying T else none
def view : Nat → TypeId → AV → AV
 | 0, _, _ => .u
 | d + 1, T, a => match C.und T with
  | some (.int k) => .i k a.int
  | some .bool => .b a.bool
  | some .string => .s a.str
  | some (.slice e) => .l e a.list
  | some (.struct fs) => match C.raw T with
   | true => a
   | false => .g (fs.toList.zipIdx.map fun f => view d f.1.type (a.fld f.2))
  | some (.array n e) => .g ((List.range n).map fun j => view d e (a.fld j))
  | _ => .u
def zero : Nat → TypeId → AV
 | 0, _ => .u
 | d + 1, T => match C.und T with
  | some (.int k) => .i k 0
  | some .bool => .b false
  | some .string => .s ⟨#[]⟩
  | some (.slice _) => .z 1
  | some (.pointer _) => .z 0
  | some (.func ..) => .z 2
  | some (.map ..) => .z 3
  | some (.interface _) => .z 4
  | some (.struct fs) => .g (fs.toList.map fun f => zero d f.type)
  | some (.array n e) => .g (List.replicate n (zero d e))
  | _ => .u
def elems (S : List Blk) : AV → Option (List AV)
 | .l _ xs => some xs
 | .z 1 => some []
 | .z 8 => some []
 | .w _ id => match S.getD id .dead with
  | .arr _ xs => some xs
  | _ => none
 | .r _ id off len => match S.getD id .dead with
  | .arr _ xs => some ((xs.drop off).take len)
  | _ => none
 | _ => none
def elT : AV → Option TypeId
 | .l e _ => some e
 | .w e _ => some e
 | .r e _ _ _ => some e
 | _ => none
def ownId : AV → List Nat
 | .w _ id => [id]
 | .r _ id _ _ => [id]
 | .p id _ => [id]
 | .m id => [id]
 | _ => []
def fzL (f : TypeId → AV → Option (AV × List Nat)) : List TypeId → List AV → Option (List AV × List Nat)
 | [], [] => some ([], [])
 | T :: Ts, a :: as => (f T a).bind fun x => (fzL f Ts as).bind fun y => some (x.1 :: y.1, x.2 ++ y.2)
 | _, _ => none
def fzN (f : TypeId → AV → Option (AV × List Nat)) (raw : Bool) (T : TypeId) (a : AV) : Option (AV × List Nat) := match raw with
 | true => match C.und T, a with
  | some (.slice _), .z 1 => some (.z 1, [])
  | _, a => f T a
 | false => f T a
def plainP (T : TypeId) : List Nat → Bool
 | [] => true
 | j :: path => !C.raw T && (match C.und T with
  | some (.struct fs) => match fs[j]? with
   | some f => plainP f.type path
   | none => false
  | _ => false)
def fz (S : List Blk) : Nat → TypeId → AV → Option (AV × List Nat)
 | 0, _, _ => none
 | d + 1, T, a => match C.und T, a with
  | some (.int k), .i k' n => if k = k' then some (.i k n, []) else none
  | some .bool, .b x => some (.b x, [])
  | some .string, .s x => some (.s x, [])
  | some (.slice e), .l e' xs => if e = e' then some (.l e xs, []) else none
  | some (.slice e), .z 1 => some (.l e [], [])
  | some (.slice e), .w e' id => if e = e' then (elems S (.w e' id)).bind fun xs => some (.l e xs, [id]) else none
  | some (.slice e), .r e' id off len => if e = e' then (elems S (.r e' id off len)).bind fun xs => some (.l e xs, [id]) else none
  | some (.struct fs), .g as => (fzL (fzN C (fz S d) (C.raw T)) (fs.toList.map (·.type)) as).bind fun x => some (.g x.1, x.2)
  | some (.array n e), .g as => (fzL (fz S d) (List.replicate n e) as).bind fun x => some (.g x.1, x.2)
  | _, _ => none
def sh : Nat → TypeId → AV → Bool
 | 0, _, _ => false
 | d + 1, T, a => match C.und T, a with
  | some (.int k), .i k' _ => k == k'
  | some .bool, .b _ => true
  | some .string, .s _ => true
  | some (.slice e), .l e' _ => e == e'
  | some (.slice e), .w e' _ => e == e'
  | some (.slice e), .r e' _ _ _ => e == e'
  | some (.slice _), .z n => n == 1
  | some (.pointer _), .p _ _ => true
  | some (.pointer _), .q _ _ _ => true
  | some (.pointer _), .at _ _ => true
  | some (.pointer _), .z n => n == 0
  | some (.func ..), .fn _ _ _ => true
  | some (.func ..), .z n => n == 2
  | some (.map ..), .m _ => true
  | some (.map ..), .z n => n == 3
  | some (.interface _), .z n => n == 4
  | some (.struct fs), .g as => as.length == fs.size && (fs.toList.zip as).all fun q => sh d q.1.type q.2
  | some (.array n e), .g as => as.length == n && as.all fun a => sh d e a
  | _, _ => false
def zcells : Nat → AV → Option (List Value)
 | 0, _ => none
 | d + 1, a => match a with
  | .i k n => some [.int k n]
  | .b x => some [.bool x]
  | .s x => some [.string x]
  | .z 0 => some [.pointer none]
  | .z 1 => some [.slice none 0 0]
  | .z 2 => some [.nilFunc]
  | .z 3 => some [.map none]
  | .z 4 => some [.nilIface]
  | .g fs => fs.foldr (fun a o => (zcells d a).bind fun c => o.map fun r => c ++ r) (some [])
  | _ => none
def eqV : Value → Value → Bool
 | .int k n, .int k' n' => k == k' && n == n'
 | .bool x, .bool y => x == y
 | .string x, .string y => x.data.toList == y.data.toList
 | .pointer none, .pointer none => true
 | .slice none 0 0, .slice none 0 0 => true
 | .nilFunc, .nilFunc => true
 | .map none, .map none => true
 | .nilIface, .nilIface => true
 | _, _ => false
def eqVs : List Value → List Value → Bool
 | [], [] => true
 | a :: as, b :: bs => eqV a b && eqVs as bs
 | _, _ => false
def zck (T : TypeId) : Bool := match (C.P.info? T).bind (·.zero), zcells C.P.depth (zero C C.P.depth T) with
 | some v, some cs => eqVs cs v.cells.toList && (match zero C C.P.depth T, v with | .g _, .agg _ => true | .g _, _ => false | _, .agg _ => false | _, .tuple _ => false | _, _ => true) && sh C C.P.depth T (zero C C.P.depth T)
 | _, _ => false
def pty (T : TypeId) : List Nat → Option TypeId
 | [] => some T
 | j :: path => match C.und T with
  | some (.struct fs) => match fs[j]? with
   | some f => pty f.type path
   | none => none
  | _ => none
def pok (T : TypeId) (path : List Nat) : Bool := match pty C T path with
 | some T' => C.P.cellsOf T' != 0
 | none => false
def getPath (a : AV) : List Nat → AV
 | [] => a
 | j :: path => getPath (a.fld j) path
def setPath (v : AV) : AV → List Nat → AV
 | _, [] => v
 | .g fs, j :: path => .g (fs.set j (setPath v (fs.getD j .u) path))
 | a, _ => a
def constAV : Value → AV
 | .int k n => .i k n
 | .bool x => .b x
 | .string x => .s x
 | .pointer none => .z 0
 | .slice none 0 0 => .z 1
 | .nilFunc => .z 2
 | .map none => .z 3
 | .nilIface => .z 4
 | _ => .u
def ev (env : List AV) : Operand → AV
 | .tmp t => env.getD t .u
 | .const v => constAV v
 | .func f => .fn f [] []
 | .global _ => .u
def isOne : AV → Bool
 | .u => false
 | .g _ => false
 | .t _ => false
 | _ => true
def openAV (S : List Blk) (ids : List Nat) : AV → AV
 | .w e id => if ids.contains id then (match S.getD id .dead with | .arr _ xs => .l e xs | _ => .u) else .w e id
 | .r e id off len => if ids.contains id then (match S.getD id .dead with | .arr _ xs => .l e ((xs.drop off).take len) | _ => .u) else .r e id off len
 | .p id path => if ids.contains id then .u else .p id path
 | .q id idx path => if ids.contains id then .u else .q id idx path
 | a => a
def kill (ids : List Nat) (S : List Blk) : List Blk := S.zipIdx.map fun x => if ids.contains x.2 then .dead else x.1
abbrev Out := Option (List AV)
abbrev KV (α : Type) := AV → List Blk → List Nat → Option α
def cmpI (op : BinOp) (a c : Int) : Option Bool := match op with
 | .eql => some (a == c)
 | .neq => some (a != c)
 | .lss => some (decide (a < c))
 | .leq => some (decide (a ≤ c))
 | .gtr => some (decide (a > c))
 | .geq => some (decide (a ≥ c))
 | _ => none
def cmpS (op : BinOp) (x y : ByteArray) : Option Bool := match op with
 | .eql => some (x.toList == y.toList)
 | .neq => some (!(x.toList == y.toList))
 | .lss => some (Op.bytesLess x.toList y.toList)
 | .leq => some (Op.bytesLess x.toList y.toList || x.toList == y.toList)
 | .gtr => some (!(Op.bytesLess x.toList y.toList || x.toList == y.toList))
 | .geq => some (!Op.bytesLess x.toList y.toList)
 | _ => none
def eqL (f : TypeId → AV → AV → Option Bool) : List Field → List AV → List AV → Option Bool
 | [], [], [] => some true
 | fd :: fs, a :: as, c :: cs => if fd.name = "_" then none else (f fd.type a c).bind fun h => (eqL f fs as cs).bind fun r => some (h && r)
 | _, _, _ => none
def eqI (f : AV → AV → Option Bool) : List AV → List AV → Option Bool
 | [], [] => some true
 | a :: as, c :: cs => (f a c).bind fun h => (eqI f as cs).bind fun r => some (h && r)
 | _, _ => none
def eqA : Nat → TypeId → AV → AV → Option Bool
 | 0, _, _, _ => none
 | d + 1, T, x, y => match C.und T, x, y with
  | some (.int _), .i _ a, .i _ c => some (a == c)
  | some .bool, .b a, .b c => some (a == c)
  | some .string, .s a, .s c => some (a.toList == c.toList)
  | some (.struct fs), .g as, .g cs => if C.P.stoodInHeld T = false then eqL (eqA d) fs.toList as cs else none
  | some (.array n e), .g as, .g cs => if n ≠ 0 then eqI (eqA d e) as cs else none
  | _, _, _ => none
def eqck (T : TypeId) (x y : AV) : Bool := sh C C.P.depth T x && sh C C.P.depth T y && !C.P.eqGuardType C.P.depth T && decide (C.P.depth ≤ 10000)
def nilP : AV → Option Bool
 | .p .. => some false
 | .q .. => some false
 | .at .. => some false
 | .z 0 => some true
 | _ => none
def binD {α : Type} (op : BinOp) (T : TypeId) (x y : AV) (K : AV → Option α) : Option α :=
 match x, y with
 | .i k a, .i k' c => (match op with
  | .shl => if 0 ≤ c then K (.i k (k.wrap (a * 2 ^ (min c.toNat k.bits)))) else none
  | .shr => if 0 ≤ c then K (.i k (a.fdiv (2 ^ (min c.toNat k.bits)))) else none
  | .add => if k = k' then K (.i k (k.wrap (a + c))) else none
  | .sub => if k = k' then K (.i k (k.wrap (a - c))) else none
  | .mul => if k = k' then K (.i k (k.wrap (a * c))) else none
  | .quo => if k = k' then (if c ≠ 0 then K (.i k (k.wrap (a.tdiv c))) else none) else none
  | .rem => if k = k' then (if c ≠ 0 then K (.i k (a.tmod c)) else none) else none
  | .and => if k = k' then K (.i k (k.wrap ((BitVec.ofInt k.bits a &&& BitVec.ofInt k.bits c).toNat))) else none
  | .or => if k = k' then K (.i k (k.wrap ((BitVec.ofInt k.bits a ||| BitVec.ofInt k.bits c).toNat))) else none
  | .xor => if k = k' then K (.i k (k.wrap ((BitVec.ofInt k.bits a ^^^ BitVec.ofInt k.bits c).toNat))) else none
  | .andNot => if k = k' then K (.i k (k.wrap ((BitVec.ofInt k.bits a &&& ~~~ BitVec.ofInt k.bits c).toNat))) else none
  | op => if k = k' then (match cmpI op a c with | some h => K (.b h) | none => none) else none)
 | .s a, .s c => (match op with
  | .add => if a.size + c.size ≤ 9223372036854775807 then K (.s (a ++ c)) else none
  | op => match cmpS op a c with | some h => K (.b h) | none => none)
 | .b a, .b c => (match C.und T, op with
  | some .bool, .eql => K (.b (a == c))
  | some .bool, .neq => K (.b (!(a == c)))
  | _, _ => none)
 | .g as, .g cs => if eqck C T (.g as) (.g cs) = true then (match eqA C C.P.depth T (.g as) (.g cs), op with
  | some h, .eql => K (.b h)
  | some h, .neq => K (.b (!h))
  | _, _ => none) else none
 | .p i pa, .p j pb => if i = j ∧ pa = pb then (match C.und T, op with
  | some (.pointer e), .eql => if (C.und e).isSome = true then K (.b true) else none
  | some (.pointer e), .neq => if (C.und e).isSome = true then K (.b false) else none
  | _, _ => none) else none
 | .z 1, .z 1 => (match C.und T, op with
  | some (.slice _), .eql => K (.b true)
  | some (.slice _), .neq => K (.b false)
  | _, _ => none)
 | .l _ xs, .z 1 => if xs.isEmpty = false then (match C.und T, op with
  | some (.slice _), .eql => K (.b false)
  | some (.slice _), .neq => K (.b true)
  | _, _ => none) else none
 | a, .z 0 => (match C.und T, nilP a, op with
  | some (.pointer _), some h, .eql => K (.b h)
  | some (.pointer _), some h, .neq => K (.b (!h))
  | _, _, _ => none)
 | _, _ => none
def unD {α : Type} (op : UnOp) (x : AV) (K : AV → Option α) : Option α :=
 match op, x with
 | .neg, .i k n => K (.i k (k.wrap (0 - n)))
 | .not, .b x => K (.b !x)
 | .xor, .i k n => K (.i k (k.wrap ((BitVec.ofInt k.bits (if k.signed then -1 else k.max) ^^^ BitVec.ofInt k.bits n).toNat)))
 | _, _ => none
def cut3 {α : Type} (len : Nat) (lo hi : Option AV) (K : Nat → Nat → Option α) : Option α :=
 match lo, hi with
 | none, none => K 0 len
 | some (.i _ l), none => if 0 ≤ l ∧ l ≤ (len : Int) then K l.toNat len else none
 | none, some (.i _ h) => if 0 ≤ h ∧ h ≤ (len : Int) then K 0 h.toNat else none
 | some (.i _ l), some (.i _ h) => if 0 ≤ h ∧ h ≤ (len : Int) then (if 0 ≤ l ∧ l ≤ h then K l.toNat h.toNat else none) else none
 | _, _ => none
def isU8 (e : TypeId) : Bool := match C.und e with
 | some (.int .u8) => true
 | _ => false
def bytesOf (xs : List AV) : ByteArray := (xs.map AV.int).foldl (fun r n => r.push (UInt8.ofNat n.toNat)) ByteArray.empty
def appSrc (S : List Blk) (e : TypeId) (y : AV) : Option (List AV) := match y with
 | .s a => if isU8 C e = true then some (a.data.toList.map fun (c : UInt8) => AV.i .u8 (c.toNat : Int)) else none
 | y => if elT y = some e ∨ elT y = none then elems S y else none
def appKind (T : TypeId) : Bool := match C.und T with
 | some (.slice _) => true
 | some .string => true
 | _ => false
def roomless : AV → Bool
 | .z 8 => true
 | .r _ _ _ _ => true
 | _ => false
def plainOk (T : TypeId) (a : AV) : Bool := match C.und T, a with
 | some (.int k), .i k' _ => k == k'
 | some .bool, .b _ => true
 | some .string, .s _ => true
 | _, _ => false
def eqK : AV → AV → Bool
 | .i _ a, .i _ c => a == c
 | .b a, .b c => a == c
 | .s a, .s c => a.toList == c.toList
 | _, _ => false
def findM (x : AV) : List (AV × AV) → Option AV
 | [] => none
 | q :: es => if eqK x q.1 = true then some q.2 else findM x es
def putM (x y : AV) : List (AV × AV) → List (AV × AV)
 | [] => [(x, y)]
 | q :: es => if eqK x q.1 = true then (x, y) :: es else q :: putM x y es
def unM (a : AV) : List (AV × AV) := a.list.map fun p => (p.fld 0, p.fld 1)
def hasM (x : AV) (es : List (AV × AV)) : Bool := (findM x es).isSome
def getM (x : AV) (es : List (AV × AV)) : AV := (findM x es).getD .u
def asP (T : TypeId) (a : AV) : AV := match C.und T with
 | some (.int k) => .i k a.int
 | some .bool => .b a.bool
 | some .string => .s a.str
 | _ => .u
def gotM (ok : Bool) (v : AV) (t : Bool) : AV := match ok with
 | true => .t [v, .b t]
 | false => v
def updD {α : Type} (S : List Blk) (T : TypeId) (m k y : AV) (K : KV α) : Option α := match C.und T, m with
 | some (.map kt et), .m id => match S.getD id .dead with
  | .map V es => if V = T ∧ plainOk C kt k = true ∧ plainOk C et y = true then K .u (S.set id (.map T (putM k y es))) [] else none
  | _ => none
 | _, _ => none
def opD {α : Type} (S : List Blk) (env : List AV) (slot : Nat) (K : KV α) : Op → Option α
 | .move x | .assign x => K (ev env x) S []
 | .alloc T => if zck C T = true then match C.und T with
  | some (.array n e) => match (if isU8 C e = true then none else fz C S C.P.depth T (zero C C.P.depth T)) with
   | some (.g xs, []) => K (.p slot []) (S.set slot (.arr e xs)) []
   | _ => none
  | _ => K (.p slot []) (S.set slot (.obj T (zero C C.P.depth T))) []
  else none
 | .box T x => match C.und T with
  | some (.array n e) => match (if isU8 C e = true then none else fz C S C.P.depth T (ev env x)) with
   | some (.g xs, []) => K (.p slot []) (S.set slot (.arr e xs)) []
   | _ => none
  | _ => if sh C C.P.depth T (ev env x) = true then K (.p slot []) (S.set slot (.obj T (ev env x))) [] else none
 | .build T parts => if zck C T = true then match C.und T, zero C C.P.depth T with
  | some (.struct fs), .g zs => if (parts.toList.all fun q => match fs[q.1]? with | some f => sh C C.P.depth f.type (ev env q.2) | none => false) = true then K (.g (parts.toList.foldl (fun zs q => zs.set q.1 (ev env q.2)) zs)) S [] else none
  | some (.array n e), .g zs => if (C.und e).isSome = true ∧ (parts.toList.all fun q => decide (q.1 < n) && sh C C.P.depth e (ev env q.2)) = true then K (.g (parts.toList.foldl (fun zs q => zs.set q.1 (ev env q.2)) zs)) S [] else none
  | _, _ => none
  else none
 | .buildSlice T len parts => match C.und T with
  | some (.slice e) => if zck C e = true ∧ len * C.P.cellsOf e ≤ 16777216 ∧ (parts.toList.all fun q => decide (q.1 < len)) = true then match fz C S C.P.depth e (zero C C.P.depth e), fzL (fz C S C.P.depth) (parts.toList.map fun _ => e) (parts.toList.map fun q => ev env q.2) with
   | some (z, []), some x => K (.w e slot) ((kill x.2 S).set slot (.arr e ((parts.toList.zip x.1).foldl (fun xs q => xs.set q.1.1 q.2) (List.replicate len z)))) x.2
   | _, _ => none
   else none
  | _ => none
 | .load T x => match ev env x with
  | .at T' a => if T' = T then K a S [] else none
  | .p id path => match S.getD id .dead with
   | .obj T' a => if pty C T' path = some T then K (getPath a path) S [] else none
   | .arr e xs => match path, C.und T with
    | [], some (.array n e') => if e' = e ∧ n = xs.length then K (.g xs) S [] else none
    | _, _ => none
   | _ => none
  | .q id idx path => match S.getD id .dead with
   | .arr e xs => if pty C e path = some T then K (getPath (view C C.P.depth e (xs.getD idx .u)) path) S [] else none
   | _ => none
  | _ => none
 | .store T' x y => match ev env x with
  | .p id path => match S.getD id .dead with
   | .obj T a => if pty C T path = some T' ∧ sh C C.P.depth T' (ev env y) = true then K .u (S.set id (.obj T (setPath (ev env y) a path))) [] else none
   | .arr e xs => match path, C.und T', fz C S C.P.depth T' (ev env y) with
    | [], some (.array n e'), some (.g ys, []) => if e' = e ∧ n = xs.length then K .u (S.set id (.arr e ys)) [] else none
    | _, _, _ => none
   | _ => none
  | .q id idx path => match S.getD id .dead with
   | .arr e xs => if pty C e path = some T' ∧ sh C C.P.depth T' (ev env y) = true then match fz C S C.P.depth e (setPath (ev env y) (view C C.P.depth e (xs.getD idx .u)) path) with
    | some z => if z.2.contains id = false then K .u ((kill z.2 S).set id (.arr e (xs.set idx z.1))) z.2 else none
    | none => none
    else none
   | _ => none
  | _ => none
 | .nilCheck x => match ev env x with
  | .p id path => K (.p id path) S []
  | .q id idx path => K (.q id idx path) S []
  | .at T a => K (.at T a) S []
  | .fn f a c => K (.fn f a c) S []
  | _ => none
 | .binOp op T x y _ => binD C op T (ev env x) (ev env y) fun v => K v S []
 | .unOp op _ x => unD op (ev env x) fun v => K v S []
 | .convert src dst x => match C.und src, C.und dst, ev env x with
  | some _, some (.int k), .i _ n => K (.i k (k.wrap n)) S []
  | some _, some .string, .s a => K (.s a) S []
  | some (.slice e), some .string, a => if isU8 C e = true ∧ (elT a = some e ∨ elT a = none) then match elems S a with
   | some xs => K (.s (bytesOf xs)) S []
   | none => none
   else none
  | some (.pointer T1), some .unsafePointer, .p id path => match S.getD id .dead with
   | .obj T _ => if pty C T path = some T1 ∧ pok C T path = true then K (.p id path) S [] else none
   | _ => none
  | some .unsafePointer, some (.pointer T1), .p id [] => match S.getD id .dead with
   | .obj T _ => if T = T1 ∧ pok C T [] = true then K (.p id []) S [] else none
   | _ => none
  | _, _, _ => none
 | .makeFunc (.func f) first cap => if ((first.toList.map (ev env)).all isOne && (cap.toList.map (ev env)).all isOne) = true then K (.fn f (first.toList.map (ev env)) (cap.toList.map (ev env))) S [] else none
 | .makeSlice T len cap => match C.und T, ev env len, ev env cap with
  | some (.slice e), .i _ n, .i _ c => if zck C e = true ∧ C.P.bytesOf e ≤ 65536 then match fz C S C.P.depth e (zero C C.P.depth e) with
   | some (z, []) => if 0 ≤ n ∧ n ≤ c ∧ c ≤ 16777216 then K (.w e slot) (S.set slot (.arr e (List.replicate n.toNat z))) [] else none
   | _ => none
   else none
  | _, _, _ => none
 | .makeMap T none => match C.und T with
  | some (.map _ _) => K (.m slot) (S.set slot (.map T [])) []
  | _ => none
 | .lookup T x ix ok => match C.und T, ev env x with
  | some (.map k e), .m id => match S.getD id .dead with
   | .map V es => if V = T ∧ plainOk C k (ev env ix) = true ∧ zck C e = true then (if hasM (ev env ix) es = true then K (gotM ok (asP C e (getM (ev env ix) es)) true) S [] else K (gotM ok (zero C C.P.depth e) false) S []) else none
   | _ => none
  | some (.map k e), .z 3 => if plainOk C k (ev env ix) = true ∧ zck C e = true then K (gotM ok (zero C C.P.depth e) false) S [] else none
  | _, _ => none
 | .mapUpdate T x k y => updD C S T (ev env x) (ev env k) (ev env y) K
 | .insert T x k y => updD C S T (ev env x) (ev env k) (ev env y) K
 | .slice T x lo hi none => match C.und T, ev env x with
  | some .string, .s a => cut3 a.size (lo.map (ev env)) (hi.map (ev env)) fun l h => K (.s (a.extract l h)) S []
  | some (.slice e'), .l e xs => if e' = e ∧ (C.und e).isSome = true then cut3 xs.length (lo.map (ev env)) (hi.map (ev env)) fun l h => K (.l e ((xs.take h).drop l)) S [] else none
  | some (.slice e'), .z 1 => if (C.und e').isSome = true then cut3 0 (lo.map (ev env)) (hi.map (ev env)) fun _ _ => K (.z 1) S [] else none
  | some (.slice e'), .w e id => if e' = e ∧ (C.und e).isSome = true then match S.getD id .dead with
   | .arr _ xs => cut3 xs.length (lo.map (ev env)) (hi.map (ev env)) fun l h => K (.r e id l (h - l)) S []
   | _ => none
   else none
  | some (.slice e'), .r e id off len => if e' = e ∧ (C.und e).isSome = true then match S.getD id .dead with
   | .arr _ _ => cut3 len (lo.map (ev env)) (hi.map (ev env)) fun l h => K (.r e id (off + l) (h - l)) S []
   | _ => none
   else none
  | some (.array n e'), .p id [] => match S.getD id .dead with
   | .arr e xs => if e' = e ∧ n = xs.length ∧ (C.und e).isSome = true then cut3 xs.length (lo.map (ev env)) (hi.map (ev env)) fun l h => K (.r e id l (h - l)) S [] else none
   | _ => none
  | _, _ => none
 | .slice T x none (some hi) (some mx) => match C.und T, ev env x, ev env hi, ev env mx with
  | some (.slice e'), a, .i _ n, .i _ m => if n = 0 ∧ m = 0 ∧ (elems S a).isSome = true ∧ (C.und e').isSome = true then K (.z 8) S [] else none
  | _, _, _, _ => none
 | .fieldAddr s x f => match ev env x with
  | .p id path => match S.getD id .dead with
   | .obj T _ => if pty C T path = some s ∧ pok C T (path ++ [f]) = true then K (.p id (path ++ [f])) S [] else none
   | _ => none
  | .q id idx path => match S.getD id .dead with
   | .arr e _ => if pty C e path = some s ∧ pok C e (path ++ [f]) = true then K (.q id idx (path ++ [f])) S [] else none
   | _ => none
  | .at T a => if T = s ∧ pok C s [f] = true ∧ C.raw s = false then match pty C s [f] with
    | some T' => K (.at T' (a.fld f)) S []
    | none => none
   else none
  | _ => none
 | .field s x f => if sh C C.P.depth s (ev env x) = true ∧ (pty C s [f]).isSome = true then K ((ev env x).fld f) S [] else none
 | .indexAddr T x ix => match ev env ix with
  | .i _ n => match C.und T, ev env x with
   | some (.slice e'), .l e xs => if e' = e then (if 0 ≤ n ∧ n < (xs.length : Int) then K (.at e (view C C.P.depth e (xs.getD n.toNat .u))) S [] else none) else none
   | some (.slice e'), .w e id => if e' = e then match S.getD id .dead with
    | .arr _ xs => if 0 ≤ n ∧ n < (xs.length : Int) then K (.q id n.toNat []) S [] else none
    | _ => none
    else none
   | some (.slice e'), .r e id off len => if e' = e then match S.getD id .dead with
    | .arr _ _ => if 0 ≤ n ∧ n < (len : Int) then K (.q id (off + n.toNat) []) S [] else none
    | _ => none
    else none
   | some (.array m e'), .p id [] => match S.getD id .dead with
    | .arr e xs => if e' = e ∧ m = xs.length then (if 0 ≤ n ∧ n < (xs.length : Int) then K (.q id n.toNat []) S [] else none) else none
    | _ => none
   | _, _ => none
  | _ => none
 | .index T x ix => match ev env ix with
  | .i _ n => match C.und T, ev env x with
   | some .string, .s a => if 0 ≤ n ∧ n < (a.size : Int) then K (.i .u8 ((a.data.getD n.toNat 0).toNat : Int)) S [] else none
   | some (.array m e), .g fs => match C.und e with
    | some (.func ..) => if sh C C.P.depth T (.g fs) = true ∧ 0 ≤ n ∧ n < (m : Int) then K (fs.getD n.toNat .u) S [] else none
    | _ => match fz C S C.P.depth T (.g fs) with
     | some (.g gs, []) => if 0 ≤ n ∧ n < (m : Int) then K (view C C.P.depth e (gs.getD n.toNat .u)) S [] else none
     | _ => none
   | _, _ => none
  | _ => none
 | .extract x j => match ev env x with
  | .t vs => match vs[j]? with
   | some v => K v S []
   | none => none
  | _ => none
 | .call { callee := .builtin .len, args, argTypes } => match C.und ((argTypes[0]?).getD C.P.types.size), args.toList with
  | some .string, [x] => match ev env x with
   | .s a => K (.i .i64 (a.size : Int)) S []
   | _ => none
  | some (.slice _), [x] => match ev env x with
   | .r _ _ _ len => K (.i .i64 (len : Int)) S []
   | a => match elems S a with
    | some xs => K (.i .i64 (xs.length : Int)) S []
    | none => none
  | some (.array n _), [_] => K (.i .i64 (n : Int)) S []
  | _, _ => none
 | .call { callee := .builtin .max, args, .. } => match args.toList.map (ev env) with
  | [.i k a, .i _ c] => K (.i k (if c > a then c else a)) S []
  | _ => none
 | .call { callee := .builtin .min, args, .. } => match args.toList.map (ev env) with
  | [.i k a, .i _ c] => K (.i k (if c < a then c else a)) S []
  | _ => none
 | .call { callee := .builtin .clear, args, argTypes } => match C.und ((argTypes[0]?).getD C.P.types.size), args.toList.map (ev env) with
  | some (.slice e), [.r e' id off len] => if e' = e ∧ zck C e = true then match S.getD id .dead, fz C S C.P.depth e (zero C C.P.depth e) with
   | .arr e2 xs, some (z, []) => if e2 = e ∧ off + len ≤ xs.length then K (.t []) (S.set id (.arr e (xs.take off ++ (List.replicate len z ++ xs.drop (off + len))))) [] else none
   | _, _ => none
   else none
  | _, _ => none
 | .call { callee := .builtin .append, args, argTypes } => match C.und ((argTypes[0]?).getD C.P.types.size), args.toList.map (ev env) with
  | some (.slice e), [x, y] => if zck C e = true ∧ C.P.bytesOf e ≤ 65536 ∧ appKind C ((argTypes[1]?).getD C.P.types.size) = true then if elT x = some e ∨ elT x = none then match elems S x, appSrc C S e y with
   | some xs, some ys => match x with
    | .l _ _ => none
    | _ => if xs.length + ys.length ≤ 16777216 ∧ (isU8 C e && roomless x) = false then K (.w e slot) ((kill (ownId x) S).set slot (.arr e (xs ++ ys))) [] else none
   | _, _ => none
   else none
   else none
  | _, _ => none
 | _ => none
def slotsOf : Op → Nat
 | .alloc _ | .box .. | .buildSlice .. | .makeSlice .. | .makeMap .. => 1
 | .call { callee := .builtin .append, .. } => 1
 | .call { callee := .builtin _, .. } => 0
 | .call _ => 8
 | _ => 0
def cls : Op → Nat
 | .move _ | .assign _ | .binOp .. | .unOp .. | .extract .. | .makeFunc .. | .nilCheck _ | .field .. | .build .. | .pick .. => 0
 | .load .. | .fieldAddr .. | .indexAddr .. | .index .. | .slice .. | .convert .. | .lookup .. => 1
 | .call { callee := .builtin .max, .. } => 0
 | .call { callee := .builtin .min, .. } => 0
 | .call { callee := .builtin .len, .. } => 1
 | .alloc _ | .box .. | .buildSlice .. | .makeSlice .. | .makeMap .. => 2
 | _ => 3
def putE (env : List AV) (dst : Option Tmp) (v : AV) : List AV := match dst with
 | some d => env.set d v
 | none => env
def setO (env : List AV) (x : Operand) (v : AV) : List AV := match x with
 | .tmp t => env.set t v
 | _ => env
def elemOf (T : TypeId) : TypeId := match C.und T with
 | some (.slice e) => e
 | some (.pointer e) => e
 | some (.array _ e) => e
 | _ => 0
def ownish : AV → Bool
 | .w .. => true
 | .r .. => true
 | .z 1 => true
 | _ => false
def nodupB : List Nat → Bool
 | [] => true
 | x :: xs => !xs.contains x && nodupB xs
def fzP (S : List Blk) (me : Nat) (T : TypeId) (a : AV) : Option (AV × List Nat) := match C.und T, a with
 | some (.pointer _), .z 0 => some (.z 0, [])
 | some (.pointer _), .p i [] => if i = me then some (.z 9, []) else none
 | _, a => fz C S C.P.depth T a
def objD (S : List Blk) (me : Nat) (own : List Nat) : Nat → List Field → List AV → Option (List AV × List Nat)
 | _, [], [] => some ([], [])
 | j, f :: fs, a :: as => (if own.contains j = true then (if ownish a = true ∧ (isU8 C (elemOf C f.type) && roomless a) = false then (elems S a).bind fun xs => some (.l (elemOf C f.type) xs, []) else none) else fzP C S me f.type a).bind fun x => (objD S me own (j + 1) fs as).bind fun y => some (x.1 :: y.1, x.2 ++ y.2)
 | _, _, _ => none
def refO (S : List Blk) (T1 : TypeId) (id : Nat) : Option (AV × List Nat × List Nat) := match C.und T1, S.getD id .dead with
 | some (.array n e), .arr e' xs => if e' = e ∧ n = xs.length then some (.g xs, [], [id]) else none
 | some (.array ..), _ => none
 | some (.struct fs), .obj T' (.g as) => if nodupB (C.own T') = true ∧ T' = T1 then (objD C S id (C.own T') 0 fs.toList as).bind fun x => some (.g x.1, x.2, id :: (C.own T').flatMap fun j => ownId ((AV.g as).fld j)) else none
 | some (.struct _), _ => none
 | some _, .obj T' v => if T' = T1 then (fz C S C.P.depth T1 v).bind fun x => some (x.1, x.2, [id]) else none
 | _, _ => none
def passC (S : List Blk) : List AV → Option (List AV × List Nat)
 | [] => some ([], [])
 | .p id path :: as => match S.getD id .dead with
  | .obj T' v => match pty C T' path with
   | some T'' => (fz C S C.P.depth T'' (getPath v path)).bind fun x => (passC S as).bind fun y => some (.at T'' x.1 :: y.1, id :: (x.2 ++ y.2))
   | none => none
  | _ => none
 | .at T v :: as => (passC S as).bind fun y => some (.at T v :: y.1, y.2)
 | _ :: _ => none
def passD (S : List Blk) (mode : Nat) (T : TypeId) (a : AV) : Option (AV × List Nat × List Nat) :=
 match mode with
 | 0 => match C.und T, a with
  | some (.pointer _), .at T' v => some (.at T' v, [], [])
  | some (.pointer _), .z 0 => some (.z 0, [], [])
  | some (.func ..), .fn f [] caps => (passC C S caps).bind fun x => some (.fn f [] x.1, x.2, [])
  | some (.func ..), .z 2 => some (.z 2, [], [])
  | some (.interface _), _ => some (.u, [], [])
  | _, a => (fz C S C.P.depth T a).bind fun x => some (x.1, x.2, [])
 | 1 => match C.und T, a with
  | some (.pointer T1), .p id [] => refO C S T1 id
  | some (.slice e), .z 1 => some (.l e [], [], [])
  | some (.slice e), .w e' id => if e' = e then (elems S (.w e id)).bind fun xs => some (.l e xs, [], [id]) else none
  | _, _ => none
 | 2 => match C.und T, a with
  | some (.slice e), .z 1 => some (.l e [], [], [])
  | some (.slice e), .w e' id => if e' = e then (elems S (.w e id)).bind fun xs => some (.l e xs, [], [id]) else none
  | some (.slice e), .r e' id off len => if e' = e ∧ isU8 C e = false then (elems S (.r e id off len)).bind fun xs => some (.l e xs, [], [id]) else none
  | _, _ => none
 | 4 => match a with
  | .p id [] => refO C S T id
  | _ => none
 | 5 => match a with
  | .at T' v => some (.at T' v, [], [])
  | _ => none
 | 6 => match a with
  | .m id => match S.getD id .dead with
   | .map V es => if V = T then some (.l T (es.map fun q => .g [q.1, q.2]), [], [id]) else none
   | _ => none
  | _ => none
 | _ => match C.und T, a with
  | some (.pointer _), .at T' v => some (.at T' v, [], [])
  | some (.pointer T1), .p id path => match S.getD id .dead with
   | .obj T' v => match pty C T' path with
    | some T'' => if T'' = T1 then (fz C S C.P.depth T'' (getPath v path)).bind fun x => some (.at T'' x.1, id :: x.2, []) else none
    | none => none
   | _ => none
  | some (.pointer T1), .q id idx path => match S.getD id .dead with
   | .arr e xs => match pty C e path with
    | some T'' => if T'' = T1 ∧ idx < xs.length ∧ plainP C e path = true then some (.at T'' (getPath (view C C.P.depth e (xs.getD idx .u)) path), [id], []) else none
    | none => none
   | _ => none
  | _, _ => none
def passL (S : List Blk) : List Nat → List TypeId → List AV → Option (List AV × List Nat × List Nat)
 | _, _, [] => some ([], [], [])
 | ms, Ts, a :: as => (passD C S (ms.headD 0) (Ts.headD 0) a).bind fun x => (passL S ms.tail Ts.tail as).bind fun y => some (x.1 :: y.1, x.2.1 ++ y.2.1, x.2.2 ++ y.2.2)
def viewP (t : Nat) (T : TypeId) (a : AV) : AV := match C.und T, a with
 | some (.pointer _), .z 0 => .z 0
 | some (.pointer _), .z 9 => .p t []
 | _, a => view C C.P.depth T a
def ownV (T : TypeId) (t base : Nat) (a : AV) : AV := match C.und T with
 | some (.struct fs) => .g (fs.toList.zipIdx.map fun f => if (C.own T).contains f.2 = true then .w (elemOf C f.1.type) (base + (C.own T).idxOf f.2) else viewP C t f.1.type (a.fld f.2))
 | _ => .u
def ownB (T : TypeId) (a : AV) : List Blk := (C.own T).map fun j => .arr (match pty C T [j] with | some T' => elemOf C T' | none => 0) (a.fld j).list
def AV.gl : AV → List AV
 | .g xs => xs
 | _ => []
def dat (T : TypeId) (a : AV) : AV := match C.und T with
 | some (.pointer _) => (match a with
  | .at T' v => .at T' (view C C.P.depth T' v)
  | a => a)
 | some (.func ..) => a
 | _ => view C C.P.depth T a
def datC (a : AV) : AV := match a with
 | .at T' v => .at T' (view C C.P.depth T' v)
 | a => a
def parL (f : Func) : List TypeId := f.params.toList ++ List.replicate f.nfree 0
def layO (T' : TypeId) (t base : Nat) (a : AV) : AV × List Blk := match C.und T' with
 | some (.array _ e) => (.p t [], [.arr e a.gl])
 | some (.struct _) => (.p t [], .obj T' (ownV C T' t base a) :: ownB C T' a)
 | _ => (.p t [], [.obj T' (view C C.P.depth T' a)])
def lay (m : Nat) (T : TypeId) (t base : Nat) (a : AV) : AV × List Blk :=
 if m = 1 ∨ m = 2 then match C.und T with
  | some (.slice e) => (.w e t, [.arr e a.list])
  | some (.pointer T') => layO C T' t base a
  | _ => (.u, [.dead])
 else if m = 4 then layO C T t base a
 else if m = 5 then (datC C a, [])
 else if m = 6 then (.m t, [.map T (unM a)])
 else (dat C T a, [])
def setL (S : List Blk) (slot : Nat) : List Blk → List Blk
 | [] => S
 | B :: Bs => setL (S.set slot B) (slot + 1) Bs
def optOf : AV → Option Nat
 | .p id [] => some id
 | .w _ id => some id
 | _ => none
def tgtL : List Nat → List TypeId → List AV → List (Nat × TypeId × Option Nat)
 | _, _, [] => []
 | ms, Ts, a :: as => if ms.headD 0 = 1 then (1, Ts.headD 0, optOf a) :: tgtL ms.tail Ts.tail as else tgtL ms.tail Ts.tail as
def putAll : List (Nat × TypeId × Option Nat) → List AV → List Blk → Nat → List AV × List Blk × Nat
 | [], _, S, slot => ([], S, slot)
 | (m, T, none) :: ps, o, S, slot =>
  let z := lay C m T slot (slot + 1) (o.headD .u)
  let y := putAll ps o.tail (setL S slot z.2) (slot + z.2.length)
  (z.1 :: y.1, y.2)
 | (m, T, some id) :: ps, o, S, slot =>
  let z := lay C m T id slot (o.headD .u)
  let y := putAll ps o.tail (setL (S.set id (z.2.headD .dead)) slot z.2.tail) (slot + z.2.tail.length)
  (z.1 :: y.1, y.2)
def freeB (l ks : List Nat) : Bool := nodupB l && l.all fun x => !ks.contains x
def rmL (ms : List Nat) (Ts : List TypeId) : List (Nat × TypeId × Option Nat) := Ts.zipIdx.map fun q => (ms.getD q.2 0, q.1, none)
def one : List AV → AV
 | [a] => a
 | as => .t as
structure CallF where
 f : FuncId → List AV → Out
 s : {α : Type} → FuncId → Func → List Blk → Nat → List AV → KV α → Option α
def flat : Nat → TypeId → Bool
 | 0, _ => false
 | d + 1, T => match C.und T with
  | some (.int _) => true
  | some .bool => true
  | some .string => true
  | some (.struct fs) => !C.raw T && fs.toList.all fun f => flat d f.type
  | some (.array _ e) => flat d e
  | _ => false
def flatR : List Nat → List TypeId → Bool
 | _, [] => true
 | ms, T :: Ts => (if ms.headD 0 = 2 then flat C C.P.depth (elemOf C T) && (match C.und T with | some (.slice _) => true | _ => false) else ms.headD 0 == 0 && flat C C.P.depth T) && flatR ms.tail Ts
def lends (n : FuncId) (f : Func) : Bool := ((C.pm n).all fun m => m == 0 || m == 3) && flatR C (C.rm n) f.resultTypes.toList
def namesB : Bool := C.P.funcs.toList.all fun f => !(f.name == "runtime.NumGoroutine")
def callP (call : CallF) (n : FuncId) (args : List AV) : Out := match C.prim n with
 | some pf => pf args
 | none => call.f n args
def inlB (n : FuncId) (args : List AV) : Bool := match C.inl n with
 | some p => p args
 | none => false
def isLive : Blk → Bool
 | .dead => false
 | _ => true
def mapO {β γ : Type} (f : β → Option γ) : List β → Option (List γ)
 | [] => some []
 | a :: as => (f a).bind fun b => (mapO f as).bind fun bs => some (b :: bs)
def renA (ren : Nat → Option Nat) : Nat → AV → Option AV
 | 0, _ => none
 | d + 1, a => match a with
  | .w e id => (ren id).bind fun i => some (.w e i)
  | .r e id off len => (ren id).bind fun i => some (.r e i off len)
  | .p id path => (ren id).bind fun i => some (.p i path)
  | .q id idx path => (ren id).bind fun i => some (.q i idx path)
  | .m id => (ren id).bind fun i => some (.m i)
  | .g fs => (mapO (renA ren d) fs).bind fun as => some (.g as)
  | .t vs => (mapO (renA ren d) vs).bind fun as => some (.t as)
  | .fn f as bs => (mapO (renA ren d) as).bind fun as => (mapO (renA ren d) bs).bind fun bs => some (.fn f as bs)
  | a => some a
def renB (ren : Nat → Option Nat) : Blk → Option Blk
 | .dead => some .dead
 | .obj T a => some (match renA ren 40 a with | some a => .obj T a | none => .dead)
 | .arr e xs => some (.arr e xs)
 | .map V es => some (.map V es)
def refA : Nat → AV → List Nat
 | 0, _ => []
 | d + 1, a => match a with
  | .w _ id => [id]
  | .r _ id _ _ => [id]
  | .p id _ => [id]
  | .q id _ _ => [id]
  | .m id => [id]
  | .g fs => fs.flatMap (refA d)
  | .t vs => vs.flatMap (refA d)
  | .fn _ as bs => as.flatMap (refA d) ++ bs.flatMap (refA d)
  | _ => []
def refB : Blk → List Nat
 | .obj _ a => refA 40 a
 | _ => []
def reachL (S : List Blk) : Nat → List Nat → List Nat
 | 0, l => l
 | k + 1, l => reachL S k (l ++ l.flatMap fun id => refB (S.getD id .dead))
def newL (S S' : List Blk) (as : List AV) : List Nat :=
 let rs := reachL S' 2 (as.flatMap (refA 40) ++ (List.range S.length).flatMap fun id => refB (S'.getD id .dead))
 (List.range S'.length).filter fun id => decide (S.length ≤ id) && isLive (S'.getD id .dead) && rs.contains id
def renI (S : List Blk) (slot : Nat) (lv : List Nat) (id : Nat) : Option Nat :=
 if id < S.length then (if isLive (S.getD id .dead) = true then some id else none) else if lv.contains id = true then some (slot + lv.idxOf id) else none
def renum (S : List Blk) (slot : Nat) (as : List AV) (S' : List Blk) : Option (List Nat × List Blk) :=
 let lv := newL S S' as
 if lv.length ≤ 8 ∧ (List.range S.length).all (fun id => isLive (S.getD id .dead) || !isLive (S'.getD id .dead)) = true then
  (mapO (fun id => renB (renI S slot lv) (S'.getD (if slot ≤ id ∧ id < slot + lv.length then lv.getD (id - slot) 0 else id) .dead)) (List.range S.length)).bind fun S2 => some (lv, S2)
 else none
def extD (S : List Blk) (q : Nat × IntKind) (args : List AV) : Option (AV × List Blk) := match q.1, args with
 | 1, [.at T a] => match C.und T, a with
  | some (.int k), .i k' n => if k = q.2 ∧ k' = k then some (.i k n, S) else none
  | _, _ => none
 | 1, [.p id path] => match S.getD id .dead with
  | .obj T a => match pty C T path with
   | some T' => match C.und T', getPath a path with
    | some (.int k), .i k' n => if k = q.2 ∧ k' = k then some (.i k n, S) else none
    | _, _ => none
   | none => none
  | _ => none
 | 2, [.p id path, .i k n] => match S.getD id .dead with
  | .obj T a => match pty C T path with
   | some T' => match C.und T' with
    | some (.int k') => if k' = k ∧ k = q.2 then some (.t [], S.set id (.obj T (setPath (.i k n) a path))) else none
    | _ => none
   | none => none
  | _ => none
 | 3, [.p id path, .i k n] => match S.getD id .dead with
  | .obj T a => match pty C T path with
   | some T' => match C.und T', getPath a path with
    | some (.int k'), .i k'' m => if k' = k ∧ k = q.2 ∧ k'' = k then some (.i k (k.wrap (m + n)), S.set id (.obj T (setPath (.i k (k.wrap (m + n))) a path))) else none
    | _, _ => none
   | none => none
  | _ => none
 | 4, [a] => some (a, S)
 | 5, [.p id path, .i k old, .i k2 n] => match S.getD id .dead with
  | .obj T a => match pty C T path with
   | some T' => match C.und T', getPath a path with
    | some (.int k'), .i k'' m => if k' = k ∧ k = q.2 ∧ k'' = k ∧ k2 = k ∧ m = old then some (.b true, S.set id (.obj T (setPath (.i k n) a path))) else none
    | _, _ => none
   | none => none
  | _ => none
 | 6, [] => some (.t [], S)
 | 7, [] => some (.t [], S)
 | 8, [.p id path] => some (.t [], S)
 | 9, [.p id path] => some (.t [], S)
 | _, _ => none
def callD {α : Type} (call : CallF) (S : List Blk) (slot : Nat) (n : FuncId) (args : List AV) (K : KV α) : Option α :=
 match C.P.funcs[n]? with
 | none => none
 | some f => match C.primS n with
  | some g => match g S slot args with
   | none => none
   | some q => if q.1 = true then (if q.2.2.1.length = S.length ∧ f.body.isSome = true then K q.2.1 q.2.2.1 q.2.2.2 else none) else none
  | none => match C.ext n with
  | some e => (extD C S e args).bind fun q => if q.2.length = S.length then K q.1 q.2 [] else none
  | none => if inlB C n args = true then (if f.body.isSome = true then call.s n f S slot args fun v S' ks => if S'.length = S.length then K v S' ks else none else none) else match passL C S (C.pm n) (parL f) args with
  | none => none
  | some x => if args.length = f.params.size + f.nfree ∧ freeB x.2.2 x.2.1 = true then (callP C call n x.1).bind fun o =>
   let ks := if lends C n f = true then [] else x.2.1
   let y := putAll C (rmL (C.rm n) f.resultTypes.toList ++ tgtL (C.pm n) (parL f) args) o (kill (ks ++ x.2.2) S) slot
   if y.2.2 ≤ slot + 8 ∧ f.body.isSome = true then K (one (y.1.take f.resultTypes.size)) y.2.1 ks else none
   else none
def clsO (o : Oper) : Nat := match o.op with
 | .call { callee := .value (.func n), .. } => match C.P.funcs[n]? with
  | some f => if (C.primS n).isNone = true ∧ (C.ext n).isNone = true ∧ (C.inl n).isNone = true ∧ lends C n f = true then 2 else 3
  | none => 3
 | .buildSlice T _ _ => if flat C C.P.depth (elemOf C T) = false then 3 else 2
 | op => cls op
def guardT (ops : List Oper) (g : Nat) : Operand := match ops[g]? with
 | some o => match o.dst with
  | some t => .tmp t
  | none => .global 0
 | none => .global 0
abbrev KE (α : Type) := List AV → KV α
def goD {α : Type} (call : CallF) (o : Oper) (slot : Nat) (env : List AV) (S : List Blk) (K : KE α) : Option α := match o.op with
 | .pick c a b => match ev env c with
  | .b t => if t = true then K (setO env c (.b true)) (ev env a) S [] else K (setO env c (.b false)) (ev env b) S []
  | _ => none
 | .call { callee := .value f, args, .. } => match ev env f with
  | .fn n first cap => if (first.all isOne && cap.all isOne) = true then callD C call S slot n (first ++ args.toList.map (ev env) ++ cap) (K env) else none
  | _ => none
 | op => opD C S env slot (K env) op
def stepD {α : Type} (call : CallF) (all : List Oper) (o : Oper) (slot : Nat) (env : List AV) (S : List Blk) (K : KE α) : Option α :=
 match o.guard with
 | none => goD C call o slot env S K
 | some (g, pol) => match ev env (guardT all g) with
  | .b t => if t = pol then goD C call o slot (setO env (guardT all g) (.b pol)) S K else K (setO env (guardT all g) (.b (!pol))) (.t []) S []
  | .t [] => K env (.t []) S []
  | _ => none
abbrev Plan := List (Option (List Nat) × Bool)
def hideS : Option (List Nat) → List Blk → List Blk
 | none, S => S.map fun _ => .dead
 | some [], S => S
 | some l, S => kill l S
def backS : Option (List Nat) → List Blk → List Blk → List Blk
 | none, S, _ => S
 | some [], _, S' => S'
 | some l, S, S' => S'.zipIdx.map fun x => if l.contains x.2 then S.getD x.2 .dead else x.1
def openL : List (List Blk × List Nat) → AV → AV
 | [], a => a
 | q :: qs, a => openL qs (openAV q.1 q.2 a)
def opsD {α : Type} (call : CallF) (all : List Oper) (K : X → Option α) : List Oper → Plan → Nat → List AV → List Blk → List (List Blk × List Nat) → Option α
 | [], _, _, env, S, op => match op with
  | [] => K ⟨env, S⟩
  | _ => K ⟨env.map (openL op), S⟩
 | o :: rest, pl, slot, env, S, op =>
  stepD C call all o slot env (hideS (pl.headD (some [], true)).1 S) fun env v S' ks => match ks with
   | [] => opsD call all K rest pl.tail (slot + slotsOf o.op) (putE env o.dst v) (backS (pl.headD (some [], true)).1 S S') op
   | k :: ks => match pl.headD (some [], true) with
    | (some l, true) => opsD call all K rest pl.tail (slot + slotsOf o.op) (putE env o.dst v) (backS (some l) S S') (op ++ [(hideS (some l) S, k :: ks)])
    | _ => none
def addAll : List Nat → List Nat → List Nat
 | acc, [] => acc
 | acc, x :: xs => if acc.contains x then addAll acc xs else addAll (acc ++ [x]) xs
def ancs : List Oper → List (List Nat) → List (List Nat)
 | [], acc => acc
 | o :: rest, acc => ancs rest (acc ++ [o.after.toList.foldl (fun s e => if Region.binds .any e = true then addAll (addAll s [e.on]) (acc.getD e.on []) else s) []])
def slotL : Nat → List Oper → List Nat
 | _, [] => []
 | b, o :: rest => b :: slotL (b + slotsOf o.op) rest
def drawOk (ops : List Oper) : Bool :=
 let an := ancs ops []
 ops.zipIdx.all fun x => (x.1.after.toList.all fun e => !Region.binds .any e || decide (e.on < x.2)) &&
  (ops.take x.2).zipIdx.all fun y => (an.getD x.2 []).contains y.2 ||
   ((clsO C x.1 != 3 || decide (clsO C y.1 ≤ 2)) && (clsO C y.1 != 3 || decide (clsO C x.1 ≤ 2)) && x.1.apart ops.toArray y.1)
def hidOf (an : List (List Nat)) (ops : List Oper) (sl : List Nat) (i : Nat) : List Nat :=
 ((ops.take i).zipIdx.filter fun y => !(an.getD i []).contains y.2 && slotsOf y.1.op != 0).flatMap fun y => (List.range (slotsOf y.1.op)).map fun j => sl.getD y.2 0 + j
def freeP (an : List (List Nat)) (i j : Nat) : Bool := !(an.getD i []).contains j && !(an.getD j []).contains i
def mainO : Op → Option Operand
 | .load _ x => some x
 | .fieldAddr _ x _ => some x
 | .indexAddr _ x _ => some x
 | .lookup _ x _ _ => some x
 | .slice _ x _ _ _ => some x
 | .convert _ _ x => some x
 | .call { args, .. } => args[0]?
 | _ => none
def rootO (ops : List Oper) : Nat → Nat → Operand → Option Operand
 | 0, _, _ => none
 | d + 1, i, x => match x with
  | .tmp t => match ((ops.take i).zipIdx.reverse).find? fun y => y.1.dst == some t with
   | none => some x
   | some y => match y.1.op with
    | .move z | .assign z | .nilCheck z | .fieldAddr _ z _ => rootO ops d y.2 z
    | _ => none
  | _ => none
def rdOf (base : Nat) (env : List AV) (ops : List Oper) (i : Nat) : List Nat := match ops[i]? with
 | some o => match (mainO o.op).bind (rootO ops 9 i) with
  | some r => (ownId (ev env r)).filter fun id => decide (id < base)
  | none => []
 | none => []
def aloneB (an : List (List Nat)) (ops : List Oper) (i : Nat) : Bool := match ops[i]? with
 | some o => clsO C o == 1 && ops.zipIdx.any fun y => clsO C y.1 == 3 && freeP an i y.2
 | none => false
def looseB (an : List (List Nat)) (ops : List Oper) (i : Nat) : Bool := match ops[i]? with
 | some o => clsO C o == 2 && ops.zipIdx.any fun y => clsO C y.1 == 3 && freeP an i y.2
 | none => false
def ownSl (ops : List Oper) (sl : List Nat) (i : Nat) : List Nat := match ops[i]? with
 | some o => (List.range (slotsOf o.op)).map fun j => sl.getD i 0 + j
 | none => []
def planOf (base : Nat) (env : List AV) (ops : List Oper) : Plan :=
 let an := ancs ops []
 let sl := slotL base ops
 let top := base + (ops.map fun o => slotsOf o.op).sum
 ops.zipIdx.map fun x => if clsO C x.1 = 0 then (none, false)
  else if clsO C x.1 = 3 then (some ((List.range ops.length).flatMap fun i => if freeP an i x.2 = true then (if aloneB C an ops i = true then rdOf base env ops i else if looseB C an ops i = true then ownSl ops sl i else []) else []), true)
  else if aloneB C an ops x.2 = true then (some ((List.range top).filter fun id => !(rdOf base env ops x.2).contains id), false)
  else if looseB C an ops x.2 = true then (some ((List.range top).filter fun id => !(ownSl ops sl x.2).contains id), false)
  else (some (hidOf an ops sl x.2), false)
inductive It where
 | code (c : Code)
 | blk (id : Nat)
 | lp (c : Code)
def exitI (id : Nat) : List It → Option (List It)
 | .blk id' :: k => if id' = id then some k else exitI id k
 | _ :: k => exitI id k
 | [] => none
def resV (env : List AV) (S : List Blk) : ResultVar → Option AV
 | .tmp t => some (env.getD t .u)
 | .cell a T => match env.getD a .u with
  | .p id [] => match S.getD id .dead with
   | .obj T' v => if T' = T then some v else none
   | .arr e xs => match C.und T with
    | some (.array n e') => if e' = e ∧ n = xs.length then some (.g xs) else none
    | _ => none
   | _ => none
  | _ => none
def resL (env : List AV) (S : List Blk) : List ResultVar → Option (List AV)
 | [] => some []
 | r :: rs => (resV C env S r).bind fun a => (resL env S rs).bind fun as => some (a :: as)
def enterL : Nat → List Nat → List TypeId → List AV → List AV × List Blk
 | _, _, _, [] => ([], [])
 | id, ms, Ts, a :: as =>
  let z := lay C (ms.headD 0) (Ts.headD 0) id (id + 1) a
  let y := enterL (id + z.2.length) ms.tail Ts.tail as
  (z.1 :: y.1, z.2 ++ y.2)
def refE : Nat → List Nat → List TypeId → List (TypeId × AV)
 | _, _, [] => []
 | id, ms, T :: Ts =>
  let z := lay C (ms.headD 0) T id (id + 1) .u
  if ms.headD 0 = 1 then (T, z.1) :: refE (id + z.2.length) ms.tail Ts else refE (id + z.2.length) ms.tail Ts
abbrev Refs := List (TypeId × AV)
def finish (n : FuncId) (f : Func) (re : Refs) (x : X) : Out :=
 match resL C x.env x.st f.results.toList with
 | none => none
 | some as =>
  match passL C x.st ((rmL (C.rm n) f.resultTypes.toList).map (·.1) ++ re.map fun _ => 1) (f.resultTypes.toList ++ re.map (·.1)) (as ++ re.map (·.2)) with
  | none => none
  | some p => if as.length = f.resultTypes.size ∧ freeB p.2.2 p.2.1 = true then some p.1 else none
def sameRef : AV → AV → Bool
 | .p id [], .p id' [] => id == id'
 | .w e id, .w e' id' => e == e' && id == id'
 | _, _ => false
def refTo (a b : AV) : Bool := match a, b with
 | .w e id, .r e' id' _ _ => e == e' && id == id'
 | a, b => sameRef a b
def moveR (b old : AV) : AV := match old with
 | .r _ _ off len => (match b with
  | .w e t => .r e t off len
  | _ => .u)
 | _ => b
def fieldR (S : List Blk) (a : AV) (j : Nat) : AV := match a with
 | .p id [] => (match S.getD id .dead with
  | .obj T v => if (C.own T).contains j = true then v.fld j else .u
  | _ => .u)
 | _ => .u
def fieldN (S : List Blk) (a a' : AV) (j : Nat) : AV := match a, a' with
 | .p id [], .p t [] => (match S.getD id .dead with
  | .obj T v => (match v.fld j with
   | .w e _ => .w e (t + (1 + (C.own T).idxOf j))
   | _ => .u)
  | _ => .u)
 | _, _ => .u
def canonX (keep : List (Nat × Nat × TypeId)) (re : Refs) (x : X) : Option (Refs × X) :=
 let nk := keep.filter fun q => decide (q.2.1 < 10)
 let as := re.map (·.2) ++ nk.map fun q => x.env.getD q.1 .u
 let ms := (re.map fun _ => 1) ++ nk.map (·.2.1)
 let Ts := re.map (·.1) ++ nk.map (·.2.2)
 match passL C x.st ms Ts as with
 | none => none
 | some p =>
  if freeB p.2.2 p.2.1 = true ∧ (keep.all fun q => decide (q.2.1 < 10) || (decide (100 ≤ q.2.1) && (ms.getD ((q.2.1 - 100) / 16) 0 == 1 || ms.getD ((q.2.1 - 100) / 16) 0 == 4) && sameRef (fieldR C x.st (as.getD ((q.2.1 - 100) / 16) .u) ((q.2.1 - 100) % 16)) (x.env.getD q.1 .u)) || (decide (q.2.1 < 100) && (ms.getD (q.2.1 - 10) 0 == 1 || ms.getD (q.2.1 - 10) 0 == 2 || ms.getD (q.2.1 - 10) 0 == 4) && refTo (as.getD (q.2.1 - 10) .u) (x.env.getD q.1 .u))) = true then
   let y := enterL C 0 ms Ts p.1
   some ((re.map (·.1)).zip y.1, ⟨(List.range x.env.length).map fun t => match keep.find? fun q => q.1 == t with
    | some q => if q.2.1 < 10 then y.1.getD (re.length + (nk.map (·.1)).idxOf t) .u else if q.2.1 < 100 then moveR (y.1.getD (q.2.1 - 10) .u) (x.env.getD t .u) else fieldN C x.st (as.getD ((q.2.1 - 100) / 16) .u) (y.1.getD ((q.2.1 - 100) / 16) .u) ((q.2.1 - 100) % 16)
    | none => .u, y.2⟩)
  else none
def regD {α : Type} (call : CallF) (K : X → Option α) (ops : Array Oper) (draw : Bool) (x : X) : Option α :=
 let S := x.st ++ List.replicate (ops.toList.map fun o => slotsOf o.op).sum Blk.dead
 if draw = true then (if drawOk C ops.toList = true then opsD C call ops.toList K ops.toList (planOf C x.st.length x.env ops.toList) x.st.length x.env S [] else none)
 else opsD C call ops.toList K ops.toList [] x.st.length x.env S []
def finI {α : Type} (f : Func) (S : List Blk) (slot : Nat) (x : X) (K : KV α) : Option α :=
 match resL C x.env x.st f.results.toList with
 | none => none
 | some as => match renum S slot as x.st with
  | none => none
  | some q => match mapO (renA (renI S slot q.1) 40) as with
   | none => none
   | some bs => if as.length = f.resultTypes.size then K (one bs) q.2 [] else none
abbrev DF := List (FuncId × List AV)
def deferO (ops : List Oper) : Option Call := match ops.getLast? with
 | some o => match o.op, o.guard, o.dst with
  | .defer c, none, none => some c
  | _, _, _ => none
 | none => none
def deferA (env : List AV) (c : Call) : Option (FuncId × List AV) := match c.callee with
 | .value f => match ev env f with
  | .fn n first cap => if (first.all isOne && cap.all isOne) = true then some (n, first ++ c.args.toList.map (ev env) ++ cap) else none
  | _ => none
 | _ => none
def endD {α : Type} (call : CallF) : DF → X → (X → Option α) → Option α
 | [], x, K => K x
 | (n, args) :: ds, x, K => match C.P.funcs[n]? with
  | none => none
  | some f => if f.body.isSome = true ∧ args.length = f.params.size + f.nfree then
    (if C.idle n = true then endD call ds x K else
     call.s n f (x.st ++ List.replicate 8 Blk.dead) x.st.length args fun _ S' ks => match ks with
      | [] => if S'.length = x.st.length + 8 then endD call ds ⟨x.env, S'⟩ K else none
      | _ => none)
   else none
abbrev GoF := (α : Type) → Bool → FuncId → Func → Refs → DF → List It → X → (Refs → X → Option α) → Option α
def callG (g : GoF) : CallF where
 f n args := match C.P.funcs[n]? with
  | none => none
  | some f => match f.body with
   | none => none
   | some c => let y := enterL C 0 (C.pm n) (parL f) args
    g (List AV) false n f (refE C 0 (C.pm n) (parL f)) [] [.code c] ⟨y.1 ++ List.replicate (f.ntmps - args.length) .u, y.2⟩ (finish C n f)
 s {α} n f S slot args K := match f.body with
  | none => none
  | some c => if args.length = f.params.size + f.nfree then g α true n f [] [] [.code c] ⟨args ++ List.replicate (f.ntmps - args.length) .u, S⟩ fun _ x => finI C f S slot x K else none
def go : Nat → GoF
 | 0, _, _, _, _, _, _, _, _, _ => none
 | k + 1, α, inl, n, f, re, df, its, x, fin =>
  match its with
  | [] => endD C (callG C (go k)) df x fun x => fin re x
  | .blk _ :: rest => go k α inl n f re df rest x fin
  | .lp c :: rest => go k α inl n f re df (.code c :: .lp c :: rest) x fin
  | .code c :: rest => match c with
   | .skip => go k α inl n f re df rest x fin
   | .region id ops draw => match (if inl = true then none else C.keep n id) with
    | none => match (if draw = true then none else deferO ops.toList) with
     | none => regD C (callG C (go k)) (fun x => go k α inl n f re df rest x fin) ops draw x
     | some c => opsD C (callG C (go k)) ops.toList (fun x => match deferA x.env c with
      | none => none
      | some d => go k α inl n f re (d :: df) rest x fin) ops.toList.dropLast [] x.st.length x.env (x.st ++ List.replicate (ops.toList.dropLast.map fun o => slotsOf o.op).sum Blk.dead) []
    | some ks => match df with
     | [] => match canonX C ks re x with
      | none => none
      | some z => regD C (callG C (go k)) (fun x => go k α inl n f z.1 [] rest x fin) ops draw z.2
     | _ => none
   | .seq a b => go k α inl n f re df (.code a :: .code b :: rest) x fin
   | .cond c a b => match ev x.env c with
    | .b t => if t = true then go k α inl n f re df (.code a :: rest) x fin else go k α inl n f re df (.code b :: rest) x fin
    | _ => none
   | .block id c => go k α inl n f re df (.code c :: .blk id :: rest) x fin
   | .loop c => go k α inl n f re df (.code c :: .lp c :: rest) x fin
   | .exit id => match exitI id rest with | some r => go k α inl n f re df r x fin | none => none
   | .ret => endD C (callG C (go k)) df x fun x => fin re x
   | _ => none
def callF (k : Nat) : CallF := callG C (go C k)
def call (k : Nat) : FuncId → List AV → Out := (callF C k).f
end
inductive Place where
 | no
 | nil
 | obj (b : Nat) (T : TypeId)
 | arr (b o n c : Nat) (e : TypeId)
 | map (b : Nat)
def Place.blk : Place → Option Nat
 | .obj b _ => some b
 | .arr b _ _ _ _ => some b
 | .map b => some b
 | _ => none
abbrev Sig := Nat → Place
def noSig : Sig := fun _ => .no
section
variable (C : Cfg)
abbrev Cfg.sz (T : TypeId) : Nat := C.P.cellsOf T
def offs (fs : List Field) : Nat → Nat → Bool
 | o, j => match fs with
  | [] => true
  | f :: fs => f.offset == o && offs fs (o + C.sz f.type) (j + 1)
def layT (T : TypeId) : Bool := match C.und T with
 | some (.struct fs) => offs C fs.toList 0 0 && C.sz T == (fs.toList.map fun f => C.sz f.type).sum
 | some (.array n e) => C.sz T == n * C.sz e
 | some _ => C.sz T == 1
 | none => true
def layB : Bool := (List.range C.P.types.size).all fun T => layT C T
def poff (T : TypeId) : List Nat → Nat
 | [] => 0
 | j :: path => match C.und T with
  | some (.struct fs) => match fs[j]? with
   | some f => f.offset + poff f.type path
   | none => 0
  | _ => 0
inductive Sh : TypeId → AV → Prop
 | i {T k n} : C.und T = some (.int k) → Sh T (.i k n)
 | b {T x} : C.und T = some .bool → Sh T (.b x)
 | s {T x} : C.und T = some .string → Sh T (.s x)
 | l {T e xs} : C.und T = some (.slice e) → Sh T (.l e xs)
 | w {T e id} : C.und T = some (.slice e) → Sh T (.w e id)
 | r {T e id off len} : C.und T = some (.slice e) → Sh T (.r e id off len)
 | z1 {T e} : C.und T = some (.slice e) → Sh T (.z 1)
 | p {T e id path} : C.und T = some (.pointer e) → Sh T (.p id path)
 | q {T e id idx path} : C.und T = some (.pointer e) → Sh T (.q id idx path)
 | at {T e T' a} : C.und T = some (.pointer e) → Sh T (.at T' a)
 | z0 {T e} : C.und T = some (.pointer e) → Sh T (.z 0)
 | fn {T x y z f a c} : C.und T = some (.func x y z) → Sh T (.fn f a c)
 | z2 {T x y z} : C.und T = some (.func x y z) → Sh T (.z 2)
 | z3 {T x y} : C.und T = some (.map x y) → Sh T (.z 3)
 | z4 {T x} : C.und T = some (.interface x) → Sh T (.z 4)
 | m {T x y id} : C.und T = some (.map x y) → Sh T (.m id)
 | g {T fs as} : C.und T = some (.struct fs) → as.length = fs.size → (∀ (j : Nat) (f : Field) a, fs[j]? = some f → as[j]? = some a → Sh f.type a) → Sh T (.g as)
 | ga {T n e as} : C.und T = some (.array n e) → as.length = n → (∀ (j : Nat) a, as[j]? = some a → Sh e a) → Sh T (.g as)
def Wt (T : TypeId) (a : AV) : Prop := Sh C T a ∧ view C C.P.depth T a = a
inductive R (w : World) (F : Nat → Prop) : Sig → AV → List Value → Prop
 | i {σ k n} : R w F σ (.i k n) [.int k n]
 | b {σ x} : R w F σ (.b x) [.bool x]
 | s {σ x} : R w F σ (.s x) [.string x]
 | g {σ fs} (css : List (List Value)) : css.length = fs.length → (∀ (j : Nat) a c, fs[j]? = some a → css[j]? = some c → R w F σ a c) → R w F σ (.g fs) css.flatten
 | l0 {σ e a cap} : R w F σ (.l e []) [.slice a 0 cap]
 | l {σ e xs b o cap} (cells : Nat → List Value) : F b → xs.length ≤ cap → (∀ (j : Nat) a, xs[j]? = some a → Wt C e a ∧ w.rangeAt b (o + j * C.sz e) (cells j) ∧ (cells j).length = C.sz e) →
   (∀ (j : Nat) a, xs[j]? = some a → R w F noSig a (cells j)) → R w F σ (.l e xs) [.slice (some ⟨b, o, none⟩) xs.length cap]
 | w {σ : Sig} {e id b o n c cap} : σ id = .arr b o n c e → n ≤ cap → cap ≤ c → R w F σ (.w e id) [.slice (some ⟨b, o, none⟩) n cap]
 | w0 {σ : Sig} {e id ad} : σ id = .nil → (isU8 C e = true → ad = none) → R w F σ (.w e id) [.slice ad 0 0]
 | r {σ : Sig} {e id off len b o n c cap} : σ id = .arr b o n c e → off + len ≤ n → len ≤ cap → off + cap ≤ c → R w F σ (.r e id off len) [.slice (some ⟨b, o + off * C.sz e, none⟩) len cap]
 | r0 {σ : Sig} {e id off ad} : R w F σ (.r e id off 0) [.slice ad 0 0]
 | p {σ : Sig} {id path b T T'} : σ id = .obj b T → pty C T path = some T' → R w F σ (.p id path) [.pointer (some ⟨b, poff C T path, none⟩)]
 | pa {σ : Sig} {id b o n c e} : σ id = .arr b o n c e → R w F σ (.p id []) [.pointer (some ⟨b, o, none⟩)]
 | q {σ : Sig} {id idx path b o n c e T'} : σ id = .arr b o n c e → idx < n → pty C e path = some T' → R w F σ (.q id idx path) [.pointer (some ⟨b, o + idx * C.sz e + poff C e path, none⟩)]
 | at {σ T a b o cs} : F b → Wt C T a → w.rangeAt b o cs → cs.length = C.sz T → R w F noSig a cs → R w F σ (.at T a) [.pointer (some ⟨b, o, none⟩)]
 | m {σ : Sig} {id b} : σ id = .map b → R w F σ (.m id) [.map (some b)]
 | z0 {σ} : R w F σ (.z 0) [.pointer none]
 | z1 {σ} : R w F σ (.z 1) [.slice none 0 0]
 | z8 {σ ad} : R w F σ (.z 8) [.slice ad 0 0]
 | z2 {σ} : R w F σ (.z 2) [.nilFunc]
 | z3 {σ} : R w F σ (.z 3) [.map none]
 | z4 {σ} : R w F σ (.z 4) [.nilIface]
 | fn {σ f as bs} (cs ds : List Value) : cs.length = as.length → ds.length = bs.length → (∀ (j : Nat) a c, as[j]? = some a → cs[j]? = some c → R w F σ a [c]) → (∀ (j : Nat) a c, bs[j]? = some a → ds[j]? = some c → R w F σ a [c]) → R w F σ (.fn f as bs) [.func (.func f) cs.toArray ds.toArray]
variable {C}
theorem rangeAt_keep {w w' : World} {b o : Nat} {cs : List Value} (h : w.rangeAt b o cs) (he : w'.heap[b]? = w.heap[b]?) : w'.rangeAt b o cs := fun j v hv => by
 rw [← h j v hv]
 unfold World.cell?
 rw [he]
theorem R.mono {w w' : World} {F F' : Nat → Prop} (hk : ∀ b, F b → w'.heap[b]? = w.heap[b]?) (hF : ∀ b, F b → F' b) {σ : Sig} {a : AV} {cs : List Value} (h : R C w F σ a cs) :
  ∀ σ' : Sig, (∀ id, σ id ≠ .no → σ' id = σ id) → R C w' F' σ' a cs := by
 induction h with
 | i => exact fun _ _ => .i
 | b => exact fun _ _ => .b
 | s => exact fun _ _ => .s
 | g css h1 h2 ih => exact fun σ' hσ => .g css h1 fun j a c ha hc => ih j a c ha hc σ' hσ
 | l0 => exact fun _ _ => .l0
 | l cells h1 h2 h3 h4 ih => exact fun σ' hσ => .l cells (hF _ h1) h2 (fun j a ha => ⟨(h3 j a ha).1, rangeAt_keep (h3 j a ha).2.1 (hk _ h1), (h3 j a ha).2.2⟩) fun j a ha => ih j a ha noSig fun _ h => absurd rfl h
 | w h1 h2 h3 => exact fun σ' hσ => .w ((hσ _ (by rw [h1]; simp)).trans h1) h2 h3
 | w0 h1 h2 => exact fun σ' hσ => .w0 ((hσ _ (by rw [h1]; simp)).trans h1) h2
 | r h1 h2 h3 h4 => exact fun σ' hσ => .r ((hσ _ (by rw [h1]; simp)).trans h1) h2 h3 h4
 | r0 => exact fun _ _ => .r0
 | p h1 h2 => exact fun σ' hσ => .p ((hσ _ (by rw [h1]; simp)).trans h1) h2
 | pa h1 => exact fun σ' hσ => .pa ((hσ _ (by rw [h1]; simp)).trans h1)
 | q h1 h2 h3 => exact fun σ' hσ => .q ((hσ _ (by rw [h1]; simp)).trans h1) h2 h3
 | «at» h1 h2 h3 h4 h5 ih => exact fun σ' hσ => .at (hF _ h1) h2 (rangeAt_keep h3 (hk _ h1)) h4 (ih noSig fun _ h => absurd rfl h)
 | m h1 => exact fun σ' hσ => .m ((hσ _ (by rw [h1]; simp)).trans h1)
 | z0 => exact fun _ _ => .z0
 | z1 => exact fun _ _ => .z1
 | z8 => exact fun _ _ => .z8
 | z2 => exact fun _ _ => .z2
 | z3 => exact fun _ _ => .z3
 | z4 => exact fun _ _ => .z4
 | fn cs ds h1 h2 h3 h4 ih1 ih2 => exact fun σ' hσ => .fn cs ds h1 h2 (fun j a c ha hc => ih1 j a c ha hc σ' hσ) fun j a c ha hc => ih2 j a c ha hc σ' hσ
end
section
variable {C : Cfg}
theorem und_lt {T : TypeId} {d : TypeDesc} (h : C.und T = some d) : T < C.P.types.size := by
 unfold Cfg.und at h
 by_cases hT : T < C.P.types.size
 ·exact hT
 ·rw [if_neg hT] at h; cases h
theorem und_P {T : TypeId} {d : TypeDesc} (h : C.und T = some d) : C.P.underlying T = some d := by
 unfold Cfg.und at h
 rw [if_pos (und_lt h)] at h
 exact h
theorem lay_at (hl : layB C = true) {T : TypeId} {d : TypeDesc} (h : C.und T = some d) : layT C T = true := by
 unfold layB at hl
 rw [List.all_eq_true] at hl
 exact hl T (List.mem_range.mpr (und_lt h))
theorem offs_at : ∀ (fs : List Field) (o k : Nat), offs C fs o k = true → ∀ (j : Nat) f, fs[j]? = some f → f.offset = o + ((fs.take j).map fun f => C.sz f.type).sum
 | [], _, _, _, j, f, hf => by simp at hf
 | g :: fs, o, k, h, j, f, hf => by
  simp only [offs, Bool.and_eq_true, beq_iff_eq] at h
  cases j with
  | zero =>
   simp only [List.getElem?_cons_zero, Option.some.injEq] at hf
   subst hf
   simp [h.1]
  | succ j =>
   simp only [List.getElem?_cons_succ] at hf
   have := offs_at fs _ _ h.2 j f hf
   simp only [List.take_succ_cons, List.map_cons, List.sum_cons]
   omega
theorem lay_struct (hl : layB C = true) {T : TypeId} {fs : Array Field} (h : C.und T = some (.struct fs)) :
  C.sz T = (fs.toList.map fun f => C.sz f.type).sum ∧ ∀ (j : Nat) f, fs[j]? = some f → f.offset = ((fs.toList.take j).map fun f => C.sz f.type).sum := by
 have := lay_at hl h
 unfold layT at this
 rw [h] at this
 simp only [Bool.and_eq_true, beq_iff_eq] at this
 refine ⟨this.2, fun j f hf => ?_⟩
 have h1 := offs_at fs.toList 0 0 this.1 j f (by rw [Array.getElem?_toList]; exact hf)
 omega
theorem lay_array (hl : layB C = true) {T n e : Nat} (h : C.und T = some (.array n e)) : C.sz T = n * C.sz e := by
 have := lay_at hl h
 unfold layT at this
 rw [h] at this
 simpa using this
theorem lay_one (hl : layB C = true) {T : TypeId} {d : TypeDesc} (h : C.und T = some d) (h1 : ∀ fs, d ≠ .struct fs) (h2 : ∀ n e, d ≠ .array n e) : C.sz T = 1 := by
 have := lay_at hl h
 unfold layT at this
 rw [h] at this
 cases d <;> first | (exact absurd rfl (h1 _)) | (exact absurd rfl (h2 _ _)) | (simpa using this)
theorem flat_at : ∀ (css : List (List Value)) (szs : List Nat), css.length = szs.length → (∀ (j : Nat) c n, css[j]? = some c → szs[j]? = some n → c.length = n) → css.flatten.length = szs.sum ∧
  ∀ (j : Nat) c, css[j]? = some c → (css.flatten.drop (szs.take j).sum).take c.length = c
 | [], [], _, _ => ⟨rfl, fun j c h => by simp at h⟩
 | [], _ :: _, h, _ => by simp at h
 | _ :: _, [], h, _ => by simp at h
 | c :: css, n :: szs, hl, h => by
  have h0 : c.length = n := h 0 c n rfl rfl
  obtain ⟨h1, h2⟩ := flat_at css szs (by simpa using hl) (fun j c' n' hc hn => h (j + 1) c' n' (by simpa using hc) (by simpa using hn))
  refine ⟨by simp [h1, h0], fun j c' hc => ?_⟩
  cases j with
  | zero =>
   simp only [List.getElem?_cons_zero, Option.some.injEq] at hc
   subst hc
   simp
  | succ j =>
   simp only [List.getElem?_cons_succ] at hc
   have := h2 j c' hc
   simp only [List.take_succ_cons, List.sum_cons, List.flatten_cons]
   rw [← h0, List.drop_append, List.drop_eq_nil_of_le (by omega), List.nil_append, Nat.add_sub_cancel_left]
   exact this
theorem getElem?_lt {α : Type} {l : List α} {j : Nat} {a : α} (h : l[j]? = some a) : j < l.length := by
 obtain ⟨h, _⟩ := List.getElem?_eq_some_iff.mp h
 exact h
theorem getElem?_of_lt {α : Type} {l : List α} {j : Nat} (h : j < l.length) : ∃ a, l[j]? = some a := ⟨l[j], List.getElem?_eq_getElem h⟩
theorem sh_len (hl : layB C = true) {T : TypeId} {a : AV} (h : Sh C T a) : ∀ {w : World} {F : Nat → Prop} {σ : Sig} {cs : List Value}, R C w F σ a cs → cs.length = C.sz T := by
 induction h with
 | g hu hn hf ih =>
  rename_i T fs as
  intro w F σ cs hr
  cases hr with
  | g css h1 h2 =>
   rw [(lay_struct hl hu).1]
   refine (flat_at css _ (by simp [h1, hn]) fun j c n hc hn' => ?_).1
   have hj := getElem?_lt hc
   obtain ⟨a, ha⟩ := getElem?_of_lt (l := as) (j := j) (by omega)
   obtain ⟨f, hf'⟩ : ∃ f, fs[j]? = some f := ⟨fs[j]'(by omega), Array.getElem?_eq_getElem (by omega)⟩
   have := ih j f a hf' ha (h2 j a c ha hc)
   rw [List.getElem?_map, Array.getElem?_toList, hf'] at hn'
   simp only [Option.map_some, Option.some.injEq] at hn'
   omega
 | ga hu hn hf ih =>
  rename_i T n e as
  intro w F σ cs hr
  cases hr with
  | g css h1 h2 =>
   rw [lay_array hl hu]
   have := (flat_at css (List.replicate n (C.sz e)) (by simp [h1, hn]) fun j c m hc hm => ?_).1
   ·rw [this]; simp
   ·have hj := getElem?_lt hc
    obtain ⟨a, ha⟩ := getElem?_of_lt (l := as) (j := j) (by omega)
    have := ih j a ha (h2 j a c ha hc)
    have hm := List.mem_of_getElem? hm
    simp only [List.mem_replicate] at hm
    omega
 | _ hu => intro w F σ cs hr; rw [lay_one hl hu (by simp) (by simp)]; cases hr <;> rfl
theorem sh_sound : ∀ (d : Nat) (T : TypeId) (a : AV), sh C d T a = true → Sh C T a
 | 0, _, _, h => by simp [sh] at h
 | d + 1, T, a, h => by
  unfold sh at h
  split at h <;> try (cases h; done)
  all_goals first
   | (simp only [beq_iff_eq] at h; subst h; first | exact .i (by assumption) | exact .l (by assumption) | exact .w (by assumption) | exact .r (by assumption) | exact .z1 (by assumption) | exact .z0 (by assumption) | exact .z2 (by assumption) | exact .z3 (by assumption) | exact .z4 (by assumption))
   | exact .b (by assumption)
   | exact .s (by assumption)
   | exact .p (by assumption)
   | exact .q (by assumption)
   | exact .at (by assumption)
   | exact .fn (by assumption)
   | exact .m (by assumption)
   | skip
  ·rename_i hu
   simp only [Bool.and_eq_true, beq_iff_eq, List.all_eq_true] at h
   refine .g hu h.1 fun j f a hf ha => sh_sound d f.type a (h.2 (f, a) ?_)
   refine List.mem_of_getElem? (i := j) ?_
   rw [List.getElem?_zip_eq_some]
   exact ⟨by rw [Array.getElem?_toList]; exact hf, ha⟩
  ·rename_i hu
   simp only [Bool.and_eq_true, beq_iff_eq, List.all_eq_true] at h
   exact .ga hu h.1 fun j a ha => sh_sound d _ a (h.2 a (List.mem_of_getElem? ha))
theorem fld_at {fs : List AV} {j : Nat} {a : AV} (h : fs[j]? = some a) : (AV.g fs).fld j = a := by simp [AV.fld, List.getD_eq_getElem?_getD, h]
theorem path_at (hl : layB C = true) {w : World} {F : Nat → Prop} {σ : Sig} : ∀ (path : List Nat) (T T' : TypeId) (a : AV) (cs : List Value), Sh C T a → R C w F σ a cs → pty C T path = some T' →
  ∃ cs', R C w F σ (getPath a path) cs' ∧ Sh C T' (getPath a path) ∧ poff C T path + C.sz T' ≤ cs.length ∧ cs' = (cs.drop (poff C T path)).take (C.sz T')
 | [], T, T', a, cs, hs, hr, hp => by
  simp only [pty, Option.some.injEq] at hp
  subst hp
  have := sh_len hl hs hr
  exact ⟨cs, hr, hs, by simp [poff, this], by simp [poff, ← this]⟩
 | j :: path, T, T', a, cs, hs, hr, hp => by
  simp only [pty] at hp
  split at hp
  ·rename_i fs hu
   split at hp
   ·rename_i f hf
    obtain ⟨as, rfl, hn, hfs⟩ : ∃ as, a = .g as ∧ as.length = fs.size ∧ ∀ (j : Nat) (f : Field) a, fs[j]? = some f → as[j]? = some a → Sh C f.type a := by
     cases hs with
     | g hu' hn hf =>
      rw [hu] at hu'
      obtain rfl := TypeDesc.struct.inj (Option.some.inj hu')
      exact ⟨_, rfl, hn, hf⟩
     | ga hu' => rw [hu] at hu'; simp at hu'
     | _ hu' => rw [hu] at hu'; simp at hu'
    have hj : j < fs.size := by
     by_cases q : j < fs.size
     ·exact q
     ·rw [Array.getElem?_eq_none (by omega)] at hf; cases hf
    obtain ⟨a, ha⟩ := getElem?_of_lt (l := as) (j := j) (by omega)
    cases hr with
    | g css h1 h2 =>
     obtain ⟨c, hc⟩ := getElem?_of_lt (l := css) (j := j) (by omega)
     have hlen : ∀ (j : Nat) c n, css[j]? = some c → (fs.toList.map fun f => C.sz f.type)[j]? = some n → c.length = n := fun j c n hc hn' => by
      have hj := getElem?_lt hc
      obtain ⟨a, ha⟩ := getElem?_of_lt (l := as) (j := j) (by omega)
      obtain ⟨f, hf'⟩ : ∃ f, fs[j]? = some f := ⟨fs[j]'(by omega), Array.getElem?_eq_getElem (by omega)⟩
      have := sh_len hl (hfs j f a hf' ha) (h2 j a c ha hc)
      rw [List.getElem?_map, Array.getElem?_toList, hf'] at hn'
      simp only [Option.map_some, Option.some.injEq] at hn'
      omega
     obtain ⟨f1, f2⟩ := flat_at css _ (by simp [h1, hn]) hlen
     obtain ⟨cs', r1, r2, r3, r4⟩ := path_at hl path f.type T' a c (hfs j f a hf ha) (h2 j a c ha hc) hp
     have ho := (lay_struct hl hu).2 j f hf
     have hcl := hlen j c (C.sz f.type) hc (by rw [List.getElem?_map, Array.getElem?_toList, hf]; rfl)
     have hfc := f2 j c hc
     rw [← List.map_take, ← ho] at hfc
     have hbig : f.offset + c.length ≤ css.flatten.length := by
      have := congrArg List.length hfc
      simp only [List.length_take, List.length_drop] at this
      have hc0 : c.length ≠ 0 ∨ c.length = 0 := by omega
      rcases hc0 with h | h
      ·omega
      ·rw [f1, h, ho]
       have : ∀ (l : List Nat) k, (l.take k).sum ≤ l.sum := fun l k => by
        conv => rhs; rw [← List.take_append_drop k l]
        rw [List.sum_append]; omega
       rw [List.map_take]
       have := this (fs.toList.map fun f => C.sz f.type) j
       omega
     refine ⟨cs', ?_, ?_, ?_, ?_⟩
     ·simp only [getPath, fld_at ha]; exact r1
     ·simp only [getPath, fld_at ha]; exact r2
     ·simp only [poff, hu, hf]; omega
     ·simp only [poff, hu, hf]
      rw [r4, ← hfc, List.drop_take, List.take_take, List.drop_drop]
      congr 1
      omega
   ·cases hp
  ·cases hp
end
section
variable {C : Cfg}
theorem set_flat : ∀ (css : List (List Value)) (j : Nat) (c c' : List Value), css[j]? = some c → c'.length = c.length → (css.set j c').flatten = css.flatten.take ((css.take j).map List.length).sum ++ c' ++ css.flatten.drop (((css.take j).map List.length).sum + c.length)
 | [], j, c, c', h, _ => by simp at h
 | d :: css, 0, c, c', h, hl => by
  simp only [List.getElem?_cons_zero, Option.some.injEq] at h
  subst h
  simp
 | d :: css, j + 1, c, c', h, hl => by
  simp only [List.getElem?_cons_succ] at h
  have := set_flat css j c c' h hl
  simp only [List.set_cons_succ, List.flatten_cons, this, List.take_succ_cons, List.map_cons, List.sum_cons]
  rw [List.take_append, List.drop_append, List.take_of_length_le (by omega : d.length ≤ d.length + _), List.drop_eq_nil_of_le (by omega : d.length ≤ d.length + _ + c.length)]
  simp only [Nat.add_sub_cancel_left, List.append_assoc, List.nil_append]
  rw [show d.length + ((css.take j).map List.length).sum + c.length - d.length = ((css.take j).map List.length).sum + c.length by omega]
theorem sum_take_le : ∀ (l : List Nat) (k : Nat), (l.take k).sum ≤ l.sum := fun l k => by
 conv => rhs; rw [← List.take_append_drop k l]
 rw [List.sum_append]; omega
structure Parts (C : Cfg) (w : World) (F : Nat → Prop) (σ : Sig) (fs : Array Field) (as : List AV) (css : List (List Value)) : Prop where
 n : as.length = fs.size
 m : css.length = as.length
 sh : ∀ (j : Nat) (f : Field) a, fs[j]? = some f → as[j]? = some a → Sh C f.type a
 r : ∀ (j : Nat) a c, as[j]? = some a → css[j]? = some c → R C w F σ a c
theorem Parts.len (hl : layB C = true) {w : World} {F : Nat → Prop} {σ : Sig} {fs : Array Field} {as : List AV} {css : List (List Value)} (h : Parts C w F σ fs as css) {j : Nat} {f : Field} {c : List Value} (hf : fs[j]? = some f) (hc : css[j]? = some c) : c.length = C.sz f.type := by
 have hj := getElem?_lt hc
 obtain ⟨a, ha⟩ := getElem?_of_lt (l := as) (j := j) (by rw [← h.m]; exact hj)
 exact sh_len hl (h.sh j f a hf ha) (h.r j a c ha hc)
theorem Parts.at_ {w : World} {F : Nat → Prop} {σ : Sig} {fs : Array Field} {as : List AV} {css : List (List Value)} (h : Parts C w F σ fs as css) {j : Nat} {f : Field} (hf : fs[j]? = some f) : ∃ a c, as[j]? = some a ∧ css[j]? = some c := by
 have hj : j < fs.size := by
  by_cases q : j < fs.size
  ·exact q
  ·rw [Array.getElem?_eq_none (by omega)] at hf; cases hf
 obtain ⟨a, ha⟩ := getElem?_of_lt (l := as) (j := j) (by rw [h.n]; exact hj)
 obtain ⟨c, hc⟩ := getElem?_of_lt (l := css) (j := j) (by rw [h.m, h.n]; exact hj)
 exact ⟨a, c, ha, hc⟩
theorem Parts.off (hl : layB C = true) {w : World} {F : Nat → Prop} {σ : Sig} {T : TypeId} {fs : Array Field} {as : List AV} {css : List (List Value)} (h : Parts C w F σ fs as css) (hu : C.und T = some (.struct fs)) {j : Nat} {f : Field} (hf : fs[j]? = some f) : f.offset = ((css.take j).map List.length).sum := by
 rw [(lay_struct hl hu).2 j f hf]
 congr 1
 apply List.ext_getElem?
 intro i
 rw [List.getElem?_map, List.getElem?_map, List.getElem?_take, List.getElem?_take]
 by_cases hi : i < j
 ·rw [if_pos hi, if_pos hi, Array.getElem?_toList]
  have hj : j < fs.size := by
   by_cases q : j < fs.size
   ·exact q
   ·rw [Array.getElem?_eq_none (by omega)] at hf; cases hf
  obtain ⟨g, hg⟩ : ∃ g, fs[i]? = some g := ⟨fs[i]'(by omega), Array.getElem?_eq_getElem (by omega)⟩
  obtain ⟨a, c, ha, hc⟩ := h.at_ hg
  rw [hg, hc, Option.map_some, Option.map_some, h.len hl hg hc]
 ·rw [if_neg hi, if_neg hi]
  rfl
theorem Sh.parts {T : TypeId} {a : AV} {fs : Array Field} (hs : Sh C T a) (hu : C.und T = some (.struct fs)) {w : World} {F : Nat → Prop} {σ : Sig} {cs : List Value} (hr : R C w F σ a cs) : ∃ as css, a = .g as ∧ cs = css.flatten ∧ Parts C w F σ fs as css := by
 obtain ⟨as, rfl, hn, hfs⟩ : ∃ as, a = .g as ∧ as.length = fs.size ∧ ∀ (j : Nat) (f : Field) a, fs[j]? = some f → as[j]? = some a → Sh C f.type a := by
  cases hs with
  | g hu' hn hf =>
   rw [hu] at hu'
   obtain rfl := TypeDesc.struct.inj (Option.some.inj hu')
   exact ⟨_, rfl, hn, hf⟩
  | ga hu' => rw [hu] at hu'; simp at hu'
  | _ hu' => rw [hu] at hu'; simp at hu'
 cases hr with
 | g css h1 h2 => exact ⟨as, css, rfl, rfl, hn, h1, hfs, h2⟩
theorem set_path (hl : layB C = true) {w : World} {F : Nat → Prop} {σ : Sig} {T' : TypeId} {v : AV} {cv : List Value} (hv : Sh C T' v) (hrv : R C w F σ v cv) : ∀ (path : List Nat) (T : TypeId) (a : AV) (cs : List Value), Sh C T a → R C w F σ a cs → pty C T path = some T' →
  Sh C T (setPath v a path) ∧ R C w F σ (setPath v a path) (cs.take (poff C T path) ++ cv ++ cs.drop (poff C T path + C.sz T'))
 | [], T, a, cs, hs, hr, hp => by
  simp only [pty, Option.some.injEq] at hp
  subst hp
  have h1 := sh_len hl hs hr
  refine ⟨by cases a <;> exact hv, ?_⟩
  have : setPath v a [] = v := by cases a <;> rfl
  rw [this]
  simp only [poff, List.take_zero, List.nil_append, Nat.zero_add]
  rw [List.drop_eq_nil_of_le (by omega), List.append_nil]
  exact hrv
 | j :: path, T, a, cs, hs, hr, hp => by
  simp only [pty] at hp
  split at hp
  ·rename_i fs hu
   split at hp
   ·rename_i f hf
    obtain ⟨as, css, rfl, rfl, P⟩ := hs.parts hu hr
    obtain ⟨a, c, ha, hc⟩ := P.at_ hf
    obtain ⟨q1, q2⟩ := set_path hl hv hrv path f.type a c (P.sh j f a hf ha) (P.r j a c ha hc) hp
    obtain ⟨cs', r1, r2, r3, r4⟩ := path_at hl path f.type T' a c (P.sh j f a hf ha) (P.r j a c ha hc) hp
    have hgd : as.getD j .u = a := by simp [List.getD_eq_getElem?_getD, ha]
    have hja := getElem?_lt ha
    have hjc := getElem?_lt hc
    have hsp : setPath v (.g as) (j :: path) = .g (as.set j (setPath v a path)) := by simp only [setPath, hgd]
    rw [hsp]
    refine ⟨.g hu (by simp [P.n]) fun i g b hg hb => ?_, ?_⟩
    ·by_cases e : j = i
     ·subst e
      rw [List.getElem?_set_self hja] at hb
      obtain rfl := Option.some.inj hb
      rw [hf] at hg
      obtain rfl := Option.some.inj hg
      exact q1
     ·rw [List.getElem?_set_ne e] at hb
      exact P.sh i g b hg hb
    ·have hcv := sh_len hl hv hrv
     have hoff := P.off hl hu hf
     have hclen := P.len hl hf hc
     have hnew : (c.take (poff C f.type path) ++ cv ++ c.drop (poff C f.type path + C.sz T')).length = c.length := by
      simp only [List.length_append, List.length_take, List.length_drop]
      omega
     have hset := set_flat css j c _ hc hnew
     have hR : R C w F σ (.g (as.set j (setPath v a path))) (css.set j (c.take (poff C f.type path) ++ cv ++ c.drop (poff C f.type path + C.sz T'))).flatten := by
      refine .g _ (by simp [P.m]) fun i b d hb hd => ?_
      by_cases e : j = i
      ·subst e
       rw [List.getElem?_set_self hja] at hb
       rw [List.getElem?_set_self hjc] at hd
       obtain rfl := Option.some.inj hb
       obtain rfl := Option.some.inj hd
       exact q2
      ·rw [List.getElem?_set_ne e] at hb
       rw [List.getElem?_set_ne e] at hd
       exact P.r i b d hb hd
     have hcd : (css.flatten.drop f.offset).take c.length = c := by
      have := (flat_at css (css.map List.length) (by simp) fun j c n hc hn => by
       rw [List.getElem?_map, hc] at hn
       simp only [Option.map_some, Option.some.injEq] at hn
       exact hn).2 j c hc
      rw [← List.map_take, ← hoff] at this
      exact this
     rw [hset, ← hoff] at hR
     have e1 : poff C T (j :: path) = f.offset + poff C f.type path := by simp only [poff, hu, hf]
     rw [e1]
     have ht : css.flatten.take (f.offset + poff C f.type path) = css.flatten.take f.offset ++ c.take (poff C f.type path) := by
      rw [List.take_add]
      congr 1
      rw [← hcd, List.take_take]
      congr 1
      omega
     have hd : css.flatten.drop (f.offset + poff C f.type path + C.sz T') = c.drop (poff C f.type path + C.sz T') ++ css.flatten.drop (f.offset + c.length) := by
      have h1 : css.flatten.drop f.offset = c ++ css.flatten.drop (f.offset + c.length) := by
       conv => lhs; rw [← List.take_append_drop c.length (css.flatten.drop f.offset)]
       rw [hcd, List.drop_drop]
      rw [show f.offset + poff C f.type path + C.sz T' = f.offset + (poff C f.type path + C.sz T') by omega, ← List.drop_drop, h1, List.drop_append_of_le_length (by omega)]
     rw [ht, hd]
     simpa only [List.append_assoc] using hR
   ·cases hp
  ·cases hp
end
section
variable {C : Cfg}
theorem ite_no {α : Type} {c : Prop} [Decidable c] {x : Option α} {y : α} (h : (if c then none else x) = some y) : ¬ c ∧ x = some y := by
 split at h
 ·cases h
 ·exact ⟨by assumption, h⟩
def ArrAt (C : Cfg) (w : World) (F : Nat → Prop) (e : TypeId) (xs : List AV) (b o c : Nat) : Prop :=
 xs.length ≤ c ∧ ∃ (cur : Array Value) (t : {t : TypeId // isU8 C e = true → t = e}), w.heap[b]? = some (.cells cur t.1 (0, 0)) ∧ o + c * C.sz e ≤ cur.size ∧ ∃ cells : Nat → List Value, ∀ (j : Nat) a, xs[j]? = some a → Wt C e a ∧ R C w F noSig a (cells j) ∧ (cells j).length = C.sz e ∧ w.rangeAt b (o + j * C.sz e) (cells j)
def ObjAt (C : Cfg) (w : World) (F : Nat → Prop) (σ : Sig) (T : TypeId) (a : AV) (b : Nat) : Prop :=
 Sh C T a ∧ ∃ (cur : Array Value) (_ : Unit), w.heap[b]? = some (.cells cur T (0, 0)) ∧ R C w F σ a cur.toList
def plainV : AV → Value
 | .i k n => .int k n
 | .b x => .bool x
 | .s x => .string x
 | _ => .nilIface
def MapAt (C : Cfg) (w : World) (V : TypeId) (es : List (AV × AV)) (b : Nat) : Prop :=
 ∃ (cur : List MapEntry) (clock : Nat), w.heap[b]? = some (.map cur.toArray clock) ∧ cur.map (fun y => (y.key, y.val)) = es.map (fun q => (plainV q.1, plainV q.2)) ∧ ∃ k e, C.und V = some (.map k e) ∧ ∀ q ∈ es, plainOk C k q.1 = true ∧ plainOk C e q.2 = true
def BlkAt (C : Cfg) (w : World) (F : Nat → Prop) (σ : Sig) : Blk → Place → Prop
 | .dead, _ => True
 | .obj T a, .obj b T' => T' = T ∧ ObjAt C w F σ T a b
 | .arr e xs, .arr b o n c e' => e' = e ∧ n = xs.length ∧ ArrAt C w F e xs b o c
 | .arr e xs, .nil => xs = []
 | .map V es, .map b => MapAt C w V es b
 | _, _ => False
def live (S : List Blk) (id : Nat) : Prop := S.getD id .dead ≠ .dead
structure Sim (C : Cfg) (F : Nat → Prop) (σ : Sig) (S : List Blk) (w : World) : Prop where
 blk : ∀ id, BlkAt C w F σ (S.getD id .dead) (σ id)
 inj : ∀ id id' b, live S id → live S id' → (σ id).blk = some b → (σ id').blk = some b → id = id'
 out : ∀ id b, live S id → (σ id).blk = some b → ¬ F b
 top : ∀ id, S.length ≤ id → σ id = .no
 fin : ∀ b, F b → b < w.heap.size
 tab : ∀ q ∈ C.tb, F q.1 ∧ ∃ t fr, w.heap[q.1]? = some (.cells q.2 t fr)
theorem Sim.tabk {F F' : Nat → Prop} {σ : Sig} {S : List Blk} {w w' : World} (hs : Sim C F σ S w) (hk : ∀ b, F b → w'.heap[b]? = w.heap[b]?) (hF : ∀ b, F b → F' b) : ∀ q ∈ C.tb, F' q.1 ∧ ∃ t fr, w'.heap[q.1]? = some (.cells q.2 t fr) := fun q hq => by
 obtain ⟨h1, t, fr, h2⟩ := hs.tab q hq
 exact ⟨hF _ h1, t, fr, by rw [hk _ h1]; exact h2⟩
structure Stp (C : Cfg) (F : Nat → Prop) (σ : Sig) (S : List Blk) (w : World) (F' : Nat → Prop) (σ' : Sig) (S' : List Blk) (w' : World) : Prop where
 os : w'.os = w.os
 tape : w'.tape = w.tape
 output : w'.output = w.output
 drawn : C.lax = true ∨ w.drawn ≤ w'.drawn
 heap : w.heap.size ≤ w'.heap.size
 keep : ∀ b, b < w.heap.size → (∀ id, live S id → (σ id).blk ≠ some b) → w'.heap[b]? = w.heap[b]?
 grow : ∀ b, F b → F' b
 new : ∀ b, F' b → F b ∨ w.heap.size ≤ b ∨ ∃ id, live S id ∧ (σ id).blk = some b
 own : ∀ id b, live S' id → (σ' id).blk = some b → w.heap.size ≤ b ∨ ∃ id', live S id' ∧ (σ id').blk = some b
theorem Stp.refl {F : Nat → Prop} {σ : Sig} {S : List Blk} {w : World} : Stp C F σ S w F σ S w :=
 ⟨rfl, rfl, rfl, .inr (Nat.le_refl _), Nat.le_refl _, fun _ _ _ => rfl, fun _ h => h, fun _ h => .inl h, fun id b h1 h2 => .inr ⟨id, h1, h2⟩⟩
theorem Stp.trans {F F1 F2 : Nat → Prop} {σ σ1 σ2 : Sig} {S S1 S2 : List Blk} {w w1 w2 : World} (h : Stp C F σ S w F1 σ1 S1 w1) (k : Stp C F1 σ1 S1 w1 F2 σ2 S2 w2) : Stp C F σ S w F2 σ2 S2 w2 where
 os := k.os.trans h.os
 tape := k.tape.trans h.tape
 output := k.output.trans h.output
 drawn := h.drawn.elim .inl fun a => k.drawn.elim .inl fun b => .inr (Nat.le_trans a b)
 heap := Nat.le_trans h.heap k.heap
 keep := fun b hb hn => by
  rw [k.keep b (Nat.lt_of_lt_of_le hb h.heap) (fun id hl he => ?_), h.keep b hb hn]
  rcases h.own id b hl he with q | ⟨id', q1, q2⟩
  ·omega
  ·exact hn id' q1 q2
 grow := fun b hb => k.grow b (h.grow b hb)
 new := fun b hb => by
  rcases k.new b hb with q | q | ⟨id, q1, q2⟩
  ·exact h.new b q
  ·exact .inr (.inl (Nat.le_trans h.heap q))
  ·rcases h.own id b q1 q2 with r | r
   ·exact .inr (.inl r)
   ·exact .inr (.inr r)
 own := fun id b hl he => by
  rcases k.own id b hl he with q | ⟨id', q1, q2⟩
  ·exact .inl (Nat.le_trans h.heap q)
  ·exact h.own id' b q1 q2
theorem live_lt {S : List Blk} {id : Nat} (h : live S id) : id < S.length := by
 by_cases q : id < S.length
 ·exact q
 ·exact absurd (by simp [List.getD_eq_getElem?_getD, List.getElem?_eq_none (by omega : S.length ≤ id)]) h
theorem Stp.dat {F F' : Nat → Prop} {σ σ' : Sig} {S S' : List Blk} {w w' : World} (hs : Sim C F σ S w) (h : Stp C F σ S w F' σ' S' w') : ∀ b, F b → w'.heap[b]? = w.heap[b]? := fun b hb =>
 h.keep b (hs.fin b hb) fun id hl he => hs.out id b hl he hb
theorem map_fields (fs : Array Field) (as : List AV) (v : TypeId → AV → AV) (hn : as.length = fs.size) : (fs.toList.zipIdx.map fun f => v f.1.type ((AV.g as).fld f.2)) = as ↔ ∀ (j : Nat) (f : Field) a, fs[j]? = some f → as[j]? = some a → v f.type a = a := by
 have key : ∀ (j : Nat) (f : Field) a, fs[j]? = some f → as[j]? = some a → (fs.toList.zipIdx.map fun f => v f.1.type ((AV.g as).fld f.2))[j]? = some (v f.type a) := fun j f a hf ha => by
  rw [List.getElem?_map, List.getElem?_zipIdx, Array.getElem?_toList, hf]
  simp [fld_at ha]
 constructor
 ·intro h j f a hf ha
  have := key j f a hf ha
  rw [h, ha] at this
  exact (Option.some.inj this).symm
 ·intro h
  apply List.ext_getElem?
  intro j
  by_cases q : j < fs.size
  ·obtain ⟨a, ha⟩ := getElem?_of_lt (l := as) (j := j) (by omega)
   have hf : fs[j]? = some (fs[j]'q) := Array.getElem?_eq_getElem q
   rw [key j _ a hf ha, ha, h j _ a hf ha]
  ·rw [List.getElem?_eq_none (by simp; omega), List.getElem?_eq_none (by omega)]
theorem map_range (n : Nat) (as : List AV) (v : AV → AV) (hn : as.length = n) : ((List.range n).map fun j => v ((AV.g as).fld j)) = as ↔ ∀ (j : Nat) a, as[j]? = some a → v a = a := by
 have key : ∀ (j : Nat) a, as[j]? = some a → ((List.range n).map fun j => v ((AV.g as).fld j))[j]? = some (v a) := fun j a ha => by
  have := getElem?_lt ha
  rw [List.getElem?_map, List.getElem?_range (by omega)]
  simp [fld_at ha]
 constructor
 ·intro h j a ha
  have := key j a ha
  rw [h, ha] at this
  exact (Option.some.inj this).symm
 ·intro h
  apply List.ext_getElem?
  intro j
  by_cases q : j < n
  ·obtain ⟨a, ha⟩ := getElem?_of_lt (l := as) (j := j) (by omega)
   rw [key j a ha, ha, h j a ha]
  ·rw [List.getElem?_eq_none (by simp; omega), List.getElem?_eq_none (by omega)]
theorem view_mono : ∀ (d : Nat) (T : TypeId) (a : AV), Sh C T a → view C d T a = a → view C (d + 1) T a = a
 | 0, T, a, hs, h => by
  simp only [view] at h
  subst h
  cases hs
 | d + 1, T, a, hs, h => by
  cases hs with
  | g hu hn hf =>
   rename_i fs as
   simp only [view, hu] at h ⊢
   cases hraw : C.raw T with
   | true => rfl
   | false =>
   rw [hraw] at h
   simp only [AV.g.injEq] at h ⊢
   have h1 := (map_fields fs as (view C d) hn).mp h
   exact (map_fields fs as (view C (d + 1)) hn).mpr fun j f a hf' ha => view_mono d f.type a (hf j f a hf' ha) (h1 j f a hf' ha)
  | ga hu hn hf =>
   rename_i n e as
   simp only [view, hu, AV.g.injEq] at h ⊢
   have h1 := (map_range n as (view C d e) hn).mp h
   exact (map_range n as (view C (d + 1) e) hn).mpr fun j a ha => view_mono d e a (hf j a ha) (h1 j a ha)
  | i hu | b hu | s hu | l hu | w hu | r hu | z1 hu | p hu | q hu | «at» hu | z0 hu | fn hu | z2 hu | z3 hu | z4 hu | m hu => simp only [view, hu] at h ⊢; exact h
theorem view_le {d d' : Nat} (hd : d ≤ d') {T : TypeId} {a : AV} (hs : Sh C T a) (h : view C d T a = a) : view C d' T a = a := by
 induction hd with
 | refl => exact h
 | step _ ih => exact view_mono _ T a hs ih
theorem Wt.field {T : TypeId} {fs : Array Field} {as : List AV} (h : Wt C T (.g as)) (hraw : C.raw T = false) (hu : C.und T = some (.struct fs)) {j : Nat} {f : Field} {a : AV} (hf : fs[j]? = some f) (ha : as[j]? = some a) : Wt C f.type a := by
 obtain ⟨hs, hv⟩ := h
 have hs' := hs
 cases hs with
 | g hu' hn hfs =>
  rw [hu] at hu'
  obtain rfl := TypeDesc.struct.inj (Option.some.inj hu')
  refine ⟨hfs j f a hf ha, ?_⟩
  cases hd : C.P.depth with
  | zero => rw [hd] at hv; simp [view] at hv
  | succ d =>
   rw [hd] at hv
   simp only [view, hu, hraw, AV.g.injEq] at hv
   exact view_mono d f.type a (hfs j f a hf ha) ((map_fields fs as (view C d) hn).mp hv j f a hf ha)
 | ga hu' => rw [hu] at hu'; simp at hu'
theorem R.keepF {F F' : Nat → Prop} (hF : ∀ b, F b → F' b) {σ : Sig} {w : World} {a : AV} {cs : List Value} (h : R C w F σ a cs) : R C w F' σ a cs := h.mono (fun _ _ => rfl) hF σ fun _ _ => rfl
theorem ArrAt.open_ {F F' : Nat → Prop} (hF : ∀ b, F b → F' b) {σ : Sig} {w : World} {e : TypeId} {xs : List AV} {b o c : Nat} (h : ArrAt C w F e xs b o c) (hb : F' b) (off len cap : Nat) (h1 : off + len ≤ xs.length) (h2 : len ≤ cap) :
  R C w F' σ (.l e ((xs.drop off).take len)) [.slice (some ⟨b, o + off * C.sz e, none⟩) len cap] := by
 obtain ⟨hc, cur, t, hh, hz, cells, hx⟩ := h
 have hlen : ((xs.drop off).take len).length = len := by simp; omega
 have hget : ∀ (j : Nat) a, ((xs.drop off).take len)[j]? = some a → xs[off + j]? = some a := fun j a ha => by
  rw [List.getElem?_take] at ha
  split at ha
  ·rw [List.getElem?_drop] at ha; exact ha
  ·cases ha
 have := R.l (C := C) (w := w) (F := F') (σ := σ) (e := e) (xs := (xs.drop off).take len) (b := b) (o := o + off * C.sz e) (cap := cap) (fun j => cells (off + j)) hb (by omega) (fun j a ha => by
  obtain ⟨q1, q2, q3, q4⟩ := hx _ _ (hget j a ha)
  refine ⟨q1, ?_, q3⟩
  rw [show o + off * C.sz e + j * C.sz e = o + (off + j) * C.sz e by rw [Nat.add_mul]; omega]
  exact q4) (fun j a ha => (hx _ _ (hget j a ha)).2.1.keepF hF)
 rw [hlen] at this
 exact this
theorem ArrAt.all {F F' : Nat → Prop} (hF : ∀ b, F b → F' b) {σ : Sig} {w : World} {e : TypeId} {xs : List AV} {b o c : Nat} (h : ArrAt C w F e xs b o c) (hb : F' b) (cap : Nat) (h2 : xs.length ≤ cap) :
  R C w F' σ (.l e xs) [.slice (some ⟨b, o, none⟩) xs.length cap] := by
 have := h.open_ hF (σ := σ) hb 0 xs.length cap (by omega) h2
 simpa using this
theorem fzL_sound {f : TypeId → AV → Option (AV × List Nat)} {Q : TypeId → AV → AV → List Nat → Prop} (h : ∀ T a x ks, f T a = some (x, ks) → Q T a x ks) : ∀ (Ts : List TypeId) (as xs : List AV) (ks : List Nat), fzL f Ts as = some (xs, ks) →
  as.length = Ts.length ∧ xs.length = Ts.length ∧ ∀ (j : Nat) T a x, Ts[j]? = some T → as[j]? = some a → xs[j]? = some x → ∃ ks', (∀ id ∈ ks', id ∈ ks) ∧ Q T a x ks'
 | [], [], xs, ks, he => by
  simp only [fzL, Option.some.injEq, Prod.mk.injEq] at he
  obtain ⟨rfl, rfl⟩ := he
  exact ⟨rfl, rfl, fun j T a x hT => by simp at hT⟩
 | T :: Ts, a :: as, xs, ks, he => by
  simp only [fzL] at he
  obtain ⟨⟨x, k1⟩, h1, he⟩ := Option.bind_eq_some_iff.mp he
  obtain ⟨⟨ys, k2⟩, h2, he⟩ := Option.bind_eq_some_iff.mp he
  simp only [Option.some.injEq, Prod.mk.injEq] at he
  obtain ⟨rfl, rfl⟩ := he
  obtain ⟨q1, q2, q3⟩ := fzL_sound h Ts as ys k2 h2
  refine ⟨by simp [q1], by simp [q2], fun j T' a' x' hT ha hx => ?_⟩
  cases j with
  | zero =>
   simp only [List.getElem?_cons_zero, Option.some.injEq] at hT ha hx
   subst hT ha hx
   exact ⟨k1, fun id hid => List.mem_append_left _ hid, h _ _ _ _ h1⟩
  | succ j =>
   simp only [List.getElem?_cons_succ] at hT ha hx
   obtain ⟨ks', r1, r2⟩ := q3 j T' a' x' hT ha hx
   exact ⟨ks', fun id hid => List.mem_append_right _ (r1 id hid), r2⟩
 | [], _ :: _, xs, ks, he => by simp [fzL] at he
 | _ :: _, [], xs, ks, he => by simp [fzL] at he
theorem elems_w {F : Nat → Prop} {σ : Sig} {S : List Blk} {w : World} (hs : Sim C F σ S w) {F' : Nat → Prop} (hF : ∀ b, F b → F' b) {σ' : Sig} {a : AV} {xs : List AV} (he : elems S a = some xs) (hk : ∀ id ∈ ownId a, ∀ b, (σ id).blk = some b → F' b) {cs : List Value} (hr : R C w F σ a cs) {e : TypeId} (ht : elT a = some e ∨ elT a = none) : R C w F' σ' (.l e xs) cs := by
 cases a <;> simp only [elems] at he <;> try (cases he; done)
 case l e' ys =>
  obtain rfl := Option.some.inj he
  simp only [elT] at ht
  obtain rfl : e' = e := by rcases ht with h | h <;> simp at h; exact h
  cases hr with
  | l0 => exact .l0
  | l cells h1 h2 h3 h4 => exact .l cells (hF _ h1) h2 h3 fun j a ha => (h4 j a ha).keepF hF
 case z n =>
  match n, he, hr with
  | 0, he, _ => simp at he
  | 1, he, hr =>
   simp only [Option.some.injEq] at he
   subst he
   cases hr <;> exact .l0
  | 8, he, hr =>
   simp only [Option.some.injEq] at he
   subst he
   cases hr <;> exact .l0
  | 2, he, _ | 3, he, _ | 4, he, _ | 5, he, _ | 6, he, _ | 7, he, _ => simp at he
  | n + 9, he, _ => simp at he
 case w e' id =>
  simp only [elT] at ht
  obtain rfl : e' = e := by rcases ht with h | h <;> simp at h; exact h
  have hb := hs.blk id
  cases hS : S.getD id .dead <;> rw [hS] at he hb <;> simp only at he <;> try (cases he; done)
  rename_i e2 ys
  obtain rfl := Option.some.inj he
  cases hr with
  | w h1 h2 h3 =>
   rw [h1] at hb
   obtain ⟨rfl, rfl, hA⟩ := hb
   exact hA.all hF (hk id (by simp [ownId]) _ (by rw [h1]; rfl)) _ h2
  | w0 h1 =>
   rw [h1] at hb
   simp only [BlkAt] at hb
   subst hb
   exact .l0
 case r e' id off len =>
  simp only [elT] at ht
  obtain rfl : e' = e := by rcases ht with h | h <;> simp at h; exact h
  have hb := hs.blk id
  cases hS : S.getD id .dead <;> rw [hS] at he hb <;> simp only at he <;> try (cases he; done)
  rename_i e2 ys
  obtain rfl := Option.some.inj he
  cases hr with
  | r h1 h2 h3 h4 =>
   rw [h1] at hb
   obtain ⟨rfl, rfl, hA⟩ := hb
   exact hA.open_ hF (hk id (by simp [ownId]) _ (by rw [h1]; rfl)) off len _ h2 h3
  | r0 => simp only [List.take_zero]; exact .l0
theorem fz_sound (hl : layB C = true) {F : Nat → Prop} {σ : Sig} {S : List Blk} {w : World} (hs : Sim C F σ S w) {F' : Nat → Prop} (hF : ∀ b, F b → F' b) : ∀ (d : Nat) (T : TypeId) (a x : AV) (ks : List Nat), fz C S d T a = some (x, ks) → ∀ cs, (∀ id ∈ ks, ∀ b, (σ id).blk = some b → F' b) → R C w F σ a cs →
  Sh C T x ∧ view C d T x = x ∧ R C w F' noSig x cs
 | 0, T, a, x, ks, h => by simp [fz] at h
 | d + 1, T, a, x, ks, h => by
  intro cs hk hr
  unfold fz at h
  split at h
  ·rename_i hu
   split at h
   ·rename_i hkk
    simp only [Option.some.injEq, Prod.mk.injEq] at h
    obtain ⟨rfl, rfl⟩ := h
    subst hkk
    cases hr
    exact ⟨.i hu, by simp [view, hu, AV.int], .i⟩
   ·cases h
  ·rename_i hu
   simp only [Option.some.injEq, Prod.mk.injEq] at h
   obtain ⟨rfl, rfl⟩ := h
   cases hr
   exact ⟨.b hu, by simp [view, hu, AV.bool], .b⟩
  ·rename_i hu
   simp only [Option.some.injEq, Prod.mk.injEq] at h
   obtain ⟨rfl, rfl⟩ := h
   cases hr
   exact ⟨.s hu, by simp [view, hu, AV.str], .s⟩
  ·rename_i e e' xs hu
   split at h
   ·rename_i he
    simp only [Option.some.injEq, Prod.mk.injEq] at h
    obtain ⟨rfl, rfl⟩ := h
    subst he
    exact ⟨.l hu, by simp [view, hu, AV.list], elems_w hs hF (a := .l e xs) rfl (by simp [ownId]) hr (.inl rfl)⟩
   ·cases h
  ·rename_i e hu
   simp only [Option.some.injEq, Prod.mk.injEq] at h
   obtain ⟨rfl, rfl⟩ := h
   exact ⟨.l hu, by simp [view, hu, AV.list], elems_w hs hF (a := .z 1) rfl (by simp [ownId]) hr (.inr rfl)⟩
  ·rename_i e e' id hu
   split at h
   ·rename_i he
    subst he
    obtain ⟨xs, h1, h⟩ := Option.bind_eq_some_iff.mp h
    simp only [Option.some.injEq, Prod.mk.injEq] at h
    obtain ⟨rfl, rfl⟩ := h
    exact ⟨.l hu, by simp [view, hu, AV.list], elems_w hs hF h1 (by simpa [ownId] using hk) hr (.inl rfl)⟩
   ·cases h
  ·rename_i e e' id off len hu
   split at h
   ·rename_i he
    subst he
    obtain ⟨xs, h1, h⟩ := Option.bind_eq_some_iff.mp h
    simp only [Option.some.injEq, Prod.mk.injEq] at h
    obtain ⟨rfl, rfl⟩ := h
    exact ⟨.l hu, by simp [view, hu, AV.list], elems_w hs hF h1 (by simpa [ownId] using hk) hr (.inl rfl)⟩
   ·cases h
  ·rename_i fs as hu
   obtain ⟨⟨xs, k⟩, h1, h⟩ := Option.bind_eq_some_iff.mp h
   simp only [Option.some.injEq, Prod.mk.injEq] at h
   obtain ⟨rfl, rfl⟩ := h
   cases hr with
   | g css n1 n2 =>
    obtain ⟨m1, m2, m3⟩ := fzL_sound (Q := fun T' a x ks => ∀ cs, (∀ id ∈ ks, ∀ b, (σ id).blk = some b → F' b) → R C w F σ a cs → Sh C T' x ∧ (C.raw T = false → view C d T' x = x) ∧ R C w F' noSig x cs) (fun T' a x ks h cs hk hr => by
     unfold fzN at h
     split at h
     ·rename_i hraw
      split at h
      ·rename_i hus
       simp only [Option.some.injEq, Prod.mk.injEq] at h
       obtain ⟨rfl, rfl⟩ := h
       cases hr
       exact ⟨.z1 hus, fun h => (by rw [hraw] at h; cases h), .z1⟩
      ·obtain ⟨q1, q2, q3⟩ := fz_sound hl hs hF d T' _ x ks h cs hk hr
       exact ⟨q1, fun _ => q2, q3⟩
     ·obtain ⟨q1, q2, q3⟩ := fz_sound hl hs hF d T' _ x ks h cs hk hr
      exact ⟨q1, fun _ => q2, q3⟩) _ _ _ _ h1
    simp only [List.length_map, Array.length_toList] at m1 m2
    have at_ : ∀ (j : Nat) (f : Field) x, fs[j]? = some f → xs[j]? = some x → ∃ c, css[j]? = some c ∧ Sh C f.type x ∧ (C.raw T = false → view C d f.type x = x) ∧ R C w F' noSig x c := fun j f x hf hx => by
     have hj := getElem?_lt hx
     obtain ⟨a, ha⟩ := getElem?_of_lt (l := as) (j := j) (by omega)
     obtain ⟨c, hc⟩ := getElem?_of_lt (l := css) (j := j) (by omega)
     obtain ⟨ks', q1, q2⟩ := m3 j f.type a x (by rw [List.getElem?_map, Array.getElem?_toList, hf]; rfl) ha hx
     exact ⟨c, hc, q2 c (fun id hid => hk id (q1 id hid)) (n2 j a c ha hc)⟩
    refine ⟨.g hu m2 fun j f x hf hx => ?_, ?_, .g css (by omega) fun j x c hx hc => ?_⟩
    ·obtain ⟨c, _, q, _⟩ := at_ j f x hf hx; exact q
    ·simp only [view, hu]
     cases hraw : C.raw T with
     | true => rfl
     | false =>
     simp only [AV.g.injEq]
     refine (map_fields fs xs (view C d) m2).mpr fun j f x hf hx => ?_
     obtain ⟨c, _, _, q, _⟩ := at_ j f x hf hx; exact q hraw
    ·have hj := getElem?_lt hx
     obtain ⟨c', hc', _, _, q⟩ := at_ j (fs[j]'(by omega)) x (Array.getElem?_eq_getElem (by omega)) hx
     rw [hc] at hc'
     obtain rfl := Option.some.inj hc'
     exact q
  ·rename_i n e as hu
   obtain ⟨⟨xs, k⟩, h1, h⟩ := Option.bind_eq_some_iff.mp h
   simp only [Option.some.injEq, Prod.mk.injEq] at h
   obtain ⟨rfl, rfl⟩ := h
   cases hr with
   | g css n1 n2 =>
    obtain ⟨m1, m2, m3⟩ := fzL_sound (Q := fun T a x ks => ∀ cs, (∀ id ∈ ks, ∀ b, (σ id).blk = some b → F' b) → R C w F σ a cs → Sh C T x ∧ view C d T x = x ∧ R C w F' noSig x cs) (fun T a x ks h => fz_sound hl hs hF d T a x ks h) _ _ _ _ h1
    simp only [List.length_replicate] at m1 m2
    have at_ : ∀ (j : Nat) x, xs[j]? = some x → ∃ c, css[j]? = some c ∧ Sh C e x ∧ view C d e x = x ∧ R C w F' noSig x c := fun j x hx => by
     have hj := getElem?_lt hx
     obtain ⟨a, ha⟩ := getElem?_of_lt (l := as) (j := j) (by omega)
     obtain ⟨c, hc⟩ := getElem?_of_lt (l := css) (j := j) (by omega)
     obtain ⟨ks', q1, q2⟩ := m3 j e a x (by rw [List.getElem?_replicate, if_pos (by omega)]) ha hx
     exact ⟨c, hc, q2 c (fun id hid => hk id (q1 id hid)) (n2 j a c ha hc)⟩
    refine ⟨.ga hu m2 fun j x hx => ?_, ?_, .g css (by omega) fun j x c hx hc => ?_⟩
    ·obtain ⟨c, _, q, _⟩ := at_ j x hx; exact q
    ·simp only [view, hu, AV.g.injEq]
     refine (map_range n xs (view C d e) m2).mpr fun j x hx => ?_
     obtain ⟨c, _, _, q, _⟩ := at_ j x hx; exact q
    ·obtain ⟨c', hc', _, _, q⟩ := at_ j x hx
     rw [hc] at hc'
     obtain rfl := Option.some.inj hc'
     exact q
  ·cases h
end
section
variable {C : Cfg}
inductive VR (C : Cfg) (w : World) (F : Nat → Prop) (σ : Sig) : AV → Value → Prop
 | u {v} : VR C w F σ .u v
 | one {a v} : (∀ fs, a ≠ .g fs) → R C w F σ a [v] → VR C w F σ a v
 | agg {fs cs} : R C w F σ (.g fs) cs → VR C w F σ (.g fs) (.agg cs.toArray)
 | t {as} (vs : List Value) : vs.length = as.length → (∀ (j : Nat) a v, as[j]? = some a → vs[j]? = some v → VR C w F σ a v) → VR C w F σ (.t as) (.tuple vs.toArray)
theorem VR.mono {w w' : World} {F F' : Nat → Prop} (hk : ∀ b, F b → w'.heap[b]? = w.heap[b]?) (hF : ∀ b, F b → F' b) {σ σ' : Sig} (hσ : ∀ id, σ id ≠ .no → σ' id = σ id) {a : AV} {v : Value} (h : VR C w F σ a v) : VR C w' F' σ' a v := by
 induction h with
 | u => exact .u
 | one h1 h2 => exact .one h1 (h2.mono hk hF σ' hσ)
 | agg h => exact .agg (h.mono hk hF σ' hσ)
 | t vs h1 h2 ih => exact .t vs h1 ih
theorem R.plain {w : World} {F : Nat → Prop} {σ : Sig} {a : AV} {cs : List Value} (h : R C w F σ a cs) : ∀ c ∈ cs, c.oneCell' = true := by
 induction h with
 | @g σ fs css h1 h2 ih =>
  intro c hc
  obtain ⟨l, hl, hcl⟩ := List.mem_flatten.mp hc
  obtain ⟨j, hj⟩ := List.getElem?_of_mem hl
  have hlt := getElem?_lt hj
  obtain ⟨a, ha⟩ := getElem?_of_lt (l := fs) (j := j) (by omega)
  exact ih j a l ha hj c hcl
 | _ => intro c hc; simp only [List.mem_singleton] at hc; subst hc; rfl
theorem VR.cells {w : World} {F : Nat → Prop} {σ : Sig} {T : TypeId} {a : AV} {v : Value} (hs : Sh C T a) (h : VR C w F σ a v) : R C w F σ a v.cells.toList := by
 cases h with
 | u => cases hs
 | t => cases hs
 | agg h => exact h
 | one h1 h2 =>
  have := h2.plain v (by simp)
  have e : v.cells = #[v] := by cases v <;> simp_all [Value.cells, Value.oneCell']
  rw [e]
  exact h2
theorem sz_info {T : TypeId} {d : TypeDesc} (h : C.und T = some d) : (C.P.info? T).map (·.size) = some (C.sz T) := by
 have := und_P h
 unfold Program.underlying at this
 unfold Cfg.sz Program.cellsOf
 cases hi : C.P.info? T with
 | none => rw [hi] at this; cases this
 | some i => rfl
theorem load_ok (hl : layB C = true) {w : World} {F : Nat → Prop} {σ : Sig} {T : TypeId} {a : AV} {cs : List Value} {b o : Nat} (hs : Sh C T a) (hr : R C w F σ a cs) (hc : w.rangeAt b o cs) :
  ∃ v, VR C w F σ a v ∧ (Instr.loadAt T (.pointer (some ⟨b, o, none⟩))).run C.P w = .ok v w := by
 have hlen := sh_len hl hs hr
 have row : ∀ d, C.und T = some d → d.isRow = true → (∃ fs, a = .g fs) → ∃ v, VR C w F σ a v ∧ (Instr.loadAt T (.pointer (some ⟨b, o, none⟩))).run C.P w = .ok v w := by
  rintro d hu hd ⟨fs, rfl⟩
  refine ⟨.agg cs.toArray, .agg hr, run_loadAt_mid w b o T cs d hc (und_P hu) hd (by rw [sz_info hu, hlen])⟩
 have one : ∀ d, C.und T = some d → d.isRow = false → (∀ fs, a ≠ .g fs) → (∃ v, cs = [v]) → ∃ v, VR C w F σ a v ∧ (Instr.loadAt T (.pointer (some ⟨b, o, none⟩))).run C.P w = .ok v w := by
  rintro d hu hd ha ⟨v, rfl⟩
  refine ⟨v, .one ha hr, ?_⟩
  have hcell : w.cell? ⟨b, o, none⟩ = some v := hc 0 v rfl
  have hagg : (isAgg T).run C.P w = .ok false w := by
   unfold isAgg
   rw [Sem.run_bind, run_underlying (und_P hu) w]
   cases d <;> simp_all
  simp [Instr.loadAt, Instr.sureAddr, loadVar, Sem.run_bind, hagg, load, Sem.run, hcell]
 cases hs with
 | g hu => exact row _ hu rfl ⟨_, rfl⟩
 | ga hu => exact row _ hu rfl ⟨_, rfl⟩
 | _ hu => exact one _ hu rfl (by simp) (by cases hr <;> exact ⟨_, rfl⟩)
theorem isAgg_store (hl : layB C = true) {w : World} {F : Nat → Prop} {σ : Sig} {T : TypeId} {a : AV} {v : Value} {cur : Array Value} {t : TypeId} {b o : Nat} (hs : Sh C T a) (hv : VR C w F σ a v) (hb : w.heap[b]? = some (.cells cur t (0, 0))) (ho : o + C.sz T ≤ cur.size) :
  v.cells.toList.length = C.sz T ∧ (Instr.storeAt T (.pointer (some ⟨b, o, none⟩)) v).run C.P w = .ok () (w.setRow b (cur.toList.take o ++ v.cells.toList ++ cur.toList.drop (o + C.sz T)).toArray) := by
 have hr := hv.cells hs
 have hlen := sh_len hl hs hr
 obtain ⟨d, hu⟩ : ∃ d, C.und T = some d := by cases hs <;> exact ⟨_, by assumption⟩
 refine ⟨hlen, ?_⟩
 have h1 := run_storeCells_at (P := C.P) b o t v.cells.toList 0 cur w hb (by omega) hr.plain
 have hi := sz_info hu
 cases hq : C.P.info? T with
 | none => rw [hq] at hi; cases hi
 | some i =>
  rw [hq] at hi
  simp only [Option.map_some, Option.some.injEq] at hi
  have h2 : v.cells.size = i.size := by rw [hi, ← hlen]; simp
  simp only [Nat.add_zero] at h1
  rw [hlen] at h1
  simp [Instr.storeAt, Instr.sureAddr, storeVar, Sem.run_bind, sizeOf, typeInfo, hq, h2, h1]
theorem BlkAt.mono {w w' : World} {F F' : Nat → Prop} {σ σ' : Sig} (hk : ∀ b, F b → w'.heap[b]? = w.heap[b]?) (hF : ∀ b, F b → F' b) (hσ : ∀ id, σ id ≠ .no → σ' id = σ id) {B : Blk} {p : Place} (hp : ∀ b, p.blk = some b → w'.heap[b]? = w.heap[b]?) (h : BlkAt C w F σ B p) : BlkAt C w' F' σ' B p := by
 cases B with
 | dead => exact trivial
 | obj T a =>
  cases p <;> simp only [BlkAt] at h <;> try exact h.elim
  obtain ⟨rfl, hs, cur, t, hh, hr⟩ := h
  exact ⟨rfl, hs, cur, t, by rw [hp _ rfl]; exact hh, hr.mono hk hF σ' hσ⟩
 | arr e xs =>
  cases p <;> simp only [BlkAt] at h <;> try exact h.elim
  ·exact h
  ·obtain ⟨rfl, rfl, hc, cur, t, hh, hz, cells, hx⟩ := h
   refine ⟨rfl, rfl, hc, cur, t, by rw [hp _ rfl]; exact hh, hz, cells, fun j a ha => ?_⟩
   obtain ⟨q1, q2, q3, q4⟩ := hx j a ha
   exact ⟨q1, q2.mono hk hF _ (fun _ h => absurd rfl h), q3, rangeAt_keep q4 (hp _ rfl)⟩
 | map V es =>
  cases p <;> simp only [BlkAt] at h <;> try exact h.elim
  obtain ⟨cur, t, hh, hn⟩ := h
  exact ⟨cur, t, by rw [hp _ rfl]; exact hh, hn⟩
def Sig.put (σ : Sig) (id : Nat) (p : Place) : Sig := fun i => if i = id then p else σ i
theorem put_self {σ : Sig} {id : Nat} {p : Place} : σ.put id p id = p := if_pos rfl
theorem put_ne {σ : Sig} {id i : Nat} {p : Place} (h : i ≠ id) : σ.put id p i = σ i := if_neg h
theorem put_ext {σ : Sig} {id : Nat} {p : Place} (h : σ id = .no) : ∀ i, σ i ≠ .no → σ.put id p i = σ i := fun i hi => put_ne fun e => hi (e ▸ h)
theorem getD_set_self {S : List Blk} {id : Nat} {B : Blk} (h : id < S.length) : (S.set id B).getD id .dead = B := by simp [List.getD_eq_getElem?_getD, h]
theorem getD_set_ne {S : List Blk} {id i : Nat} {B : Blk} (h : i ≠ id) : (S.set id B).getD i .dead = S.getD i .dead := by
 simp only [List.getD_eq_getElem?_getD]
 rw [List.getElem?_set_ne (Ne.symm h)]
theorem heap_lt {w : World} {b : Nat} {o : Obj} (h : w.heap[b]? = some o) : b < w.heap.size := by
 by_cases q : b < w.heap.size
 ·exact q
 ·rw [Array.getElem?_eq_none (by omega)] at h; cases h
theorem Sim.alloc {F : Nat → Prop} {σ : Sig} {S : List Blk} {w : World} (hs : Sim C F σ S w) {slot : Nat} (hl : slot < S.length) (hd : S.getD slot .dead = .dead) (hσ : σ slot = .no) (o : Obj) (B : Blk) (p : Place) (hp : p.blk = some w.heap.size)
  (hB : BlkAt C (w.alloc o) F (σ.put slot p) B p) : Sim C F (σ.put slot p) (S.set slot B) (w.alloc o) ∧ Stp C F σ S w F (σ.put slot p) (S.set slot B) (w.alloc o) := by
 have hheap : ∀ b, b < w.heap.size → (w.alloc o).heap[b]? = w.heap[b]? := fun b hb => by
  show (w.heap.push o)[b]? = _
  rw [Array.getElem?_push, if_neg (by omega)]
 have hsz : (w.alloc o).heap.size = w.heap.size + 1 := by
  show (w.heap.push o).size = _
  simp
 have hplt : ∀ id b, live S id → (σ id).blk = some b → b < w.heap.size := fun id b hlv hb => by
  have := hs.blk id
  unfold live at hlv
  cases hS : S.getD id .dead with
  | dead => exact absurd hS hlv
  | obj T a =>
   rw [hS] at this
   cases hσi : σ id <;> rw [hσi] at this hb <;> simp only [BlkAt] at this <;> try exact this.elim
   simp only [Place.blk, Option.some.injEq] at hb
   subst hb
   obtain ⟨_, _, cur, t, hh, _⟩ := this
   exact heap_lt hh
  | arr e xs =>
   rw [hS] at this
   cases hσi : σ id <;> rw [hσi] at this hb <;> simp only [BlkAt] at this <;> try exact this.elim
   ·simp [Place.blk] at hb
   ·simp only [Place.blk, Option.some.injEq] at hb
    subst hb
    obtain ⟨_, _, _, cur, t, hh, _⟩ := this
    exact heap_lt hh
  | map V es =>
   rw [hS] at this
   cases hσi : σ id <;> rw [hσi] at this hb <;> simp only [BlkAt] at this <;> try exact this.elim
   simp only [Place.blk, Option.some.injEq] at hb
   subst hb
   obtain ⟨cur, t, hh, _⟩ := this
   exact heap_lt hh
 have hlive : ∀ id, live (S.set slot B) id → id ≠ slot → live S id := fun id h hne => by
  unfold live at *
  rwa [getD_set_ne hne] at h
 have hdead : ¬ live S slot := fun h => h hd
 refine ⟨⟨fun id => ?_, fun id id' b h1 h2 h3 h4 => ?_, fun id b h1 h2 hF => ?_, fun id hid => ?_, fun b hb => ?_, hs.tabk (fun b hb => hheap b (hs.fin b hb)) fun _ h => h⟩, ⟨rfl, rfl, rfl, .inr (Nat.le_refl _), by omega, fun b hb _ => hheap b hb, fun b h => h, fun b h => .inl h, fun id b h1 h2 => ?_⟩⟩
 ·by_cases e : id = slot
  ·subst e
   rw [getD_set_self hl, put_self]
   exact hB
  ·rw [getD_set_ne e, put_ne e]
   by_cases hlv : live S id
   ·exact (hs.blk id).mono (fun b hb => hheap b (hs.fin b hb)) (fun _ h => h) (put_ext hσ) fun b hb => hheap b (hplt id b hlv hb)
   ·have : S.getD id .dead = .dead := Classical.byContradiction fun h => hlv h
    rw [this]
    exact trivial
 ·by_cases e : id = slot
  ·by_cases e' : id' = slot
   ·rw [e, e']
   ·rw [e, put_self, hp] at h3
    rw [put_ne e'] at h4
    have := hplt id' b (hlive id' h2 e') h4
    simp only [Option.some.injEq] at h3
    omega
  ·by_cases e' : id' = slot
   ·rw [e', put_self, hp] at h4
    rw [put_ne e] at h3
    have := hplt id b (hlive id h1 e) h3
    simp only [Option.some.injEq] at h4
    omega
   ·rw [put_ne e] at h3
    rw [put_ne e'] at h4
    exact hs.inj id id' b (hlive id h1 e) (hlive id' h2 e') h3 h4
 ·by_cases e : id = slot
  ·rw [e, put_self, hp] at h2
   have := hs.fin b hF
   simp only [Option.some.injEq] at h2
   omega
  ·rw [put_ne e] at h2
   exact hs.out id b (hlive id h1 e) h2 hF
 ·rw [List.length_set] at hid
  rw [put_ne (by omega)]
  exact hs.top id hid
 ·have := hs.fin b hb
  omega
 ·by_cases e : id = slot
  ·rw [e, put_self, hp] at h2
   simp only [Option.some.injEq] at h2
   exact .inl (by omega)
  ·rw [put_ne e] at h2
   exact .inr ⟨id, hlive id h1 e, h2⟩
theorem Sim.lt {F : Nat → Prop} {σ : Sig} {S : List Blk} {w : World} (hs : Sim C F σ S w) {id b : Nat} (hlv : live S id) (hb : (σ id).blk = some b) : b < w.heap.size := by
 have := hs.blk id
 unfold live at hlv
 cases hS : S.getD id .dead with
 | dead => exact absurd hS hlv
 | obj T a =>
  rw [hS] at this
  cases hσi : σ id <;> rw [hσi] at this hb <;> simp only [BlkAt] at this <;> try exact this.elim
  simp only [Place.blk, Option.some.injEq] at hb
  subst hb
  obtain ⟨_, _, cur, t, hh, _⟩ := this
  exact heap_lt hh
 | arr e xs =>
  rw [hS] at this
  cases hσi : σ id <;> rw [hσi] at this hb <;> simp only [BlkAt] at this <;> try exact this.elim
  ·simp [Place.blk] at hb
  ·simp only [Place.blk, Option.some.injEq] at hb
   subst hb
   obtain ⟨_, _, _, cur, t, hh, _⟩ := this
   exact heap_lt hh
 | map V es =>
  rw [hS] at this
  cases hσi : σ id <;> rw [hσi] at this hb <;> simp only [BlkAt] at this <;> try exact this.elim
  simp only [Place.blk, Option.some.injEq] at hb
  subst hb
  obtain ⟨cur, t, hh, _⟩ := this
  exact heap_lt hh
theorem Sim.set {F : Nat → Prop} {σ : Sig} {S : List Blk} {w : World} (hs : Sim C F σ S w) {id b : Nat} (hlv : live S id) (hb : (σ id).blk = some b) (cells : Array Value) (B : Blk) (hB : BlkAt C (w.setRow b cells) F σ B (σ id)) :
  Sim C F σ (S.set id B) (w.setRow b cells) ∧ Stp C F σ S w F σ (S.set id B) (w.setRow b cells) := by
 have hlt := live_lt hlv
 have hne : ∀ i, live S i → i ≠ id → ∀ c, (σ i).blk = some c → c ≠ b := fun i hi hn c hc e => hn (hs.inj i id c hi hlv hc (e ▸ hb))
 have hF : ∀ c, F c → c ≠ b := fun c hc e => hs.out id b hlv hb (e ▸ hc)
 have hlive : ∀ i, live (S.set id B) i → live S i := fun i h => by
  by_cases e : i = id
  ·rw [e]; exact hlv
  ·unfold live at *
   rwa [getD_set_ne e] at h
 refine ⟨⟨fun i => ?_, fun i i' c h1 h2 h3 h4 => hs.inj i i' c (hlive i h1) (hlive i' h2) h3 h4, fun i c h1 h2 => hs.out i c (hlive i h1) h2, fun i hi => hs.top i (by rw [List.length_set] at hi; exact hi), fun c hc => by rw [setRow_size]; exact hs.fin c hc, hs.tabk (fun c hc => setRow_other w b c cells (hF c hc)) fun _ h => h⟩, ⟨rfl, rfl, rfl, .inr (Nat.le_refl _), by rw [setRow_size]; exact Nat.le_refl _, fun c hc hn => setRow_other w b c cells fun e => hn id hlv (by rw [hb, e]), fun _ h => h, fun _ h => .inl h, fun i c h1 h2 => .inr ⟨i, hlive i h1, h2⟩⟩⟩
 by_cases e : i = id
 ·subst e
  rw [getD_set_self hlt]
  exact hB
 ·rw [getD_set_ne e]
  by_cases hi : live S i
  ·exact (hs.blk i).mono (fun c hc => setRow_other w b c cells (hF c hc)) (fun _ h => h) (fun _ _ => rfl) fun c hc => setRow_other w b c cells (hne i hi e c hc)
  ·have : S.getD i .dead = .dead := Classical.byContradiction fun h => hi h
   rw [this]
   exact trivial
theorem getD_kill (ids : List Nat) (S : List Blk) (i : Nat) : (kill ids S).getD i .dead = if ids.contains i then .dead else S.getD i .dead := by
 unfold kill
 simp only [List.getD_eq_getElem?_getD, List.getElem?_map, List.getElem?_zipIdx]
 cases hS : S[i]? with
 | none => simp
 | some B => simp
theorem kill_length (ids : List Nat) (S : List Blk) : (kill ids S).length = S.length := by simp [kill]
theorem kill_nil (S : List Blk) : kill [] S = S := by
 apply List.ext_getElem?
 intro i
 unfold kill
 rw [List.getElem?_map, List.getElem?_zipIdx]
 cases S[i]? <;> simp
def more (F : Nat → Prop) (σ : Sig) (S : List Blk) (ks : List Nat) : Nat → Prop := fun b => F b ∨ ∃ id, id ∈ ks ∧ live S id ∧ (σ id).blk = some b
theorem Sim.open_ {F : Nat → Prop} {σ : Sig} {S : List Blk} {w : World} (hs : Sim C F σ S w) (ks : List Nat) : Sim C (more F σ S ks) σ (kill ks S) w ∧ Stp C F σ S w (more F σ S ks) σ (kill ks S) w := by
 have hlive : ∀ i, live (kill ks S) i → live S i ∧ ks.contains i = false := fun i h => by
  unfold live at *
  rw [getD_kill] at h
  cases hc : ks.contains i with
  | true => rw [hc] at h; exact absurd rfl h
  | false => rw [hc] at h; exact ⟨h, rfl⟩
 refine ⟨⟨fun i => ?_, fun i i' c h1 h2 => hs.inj i i' c (hlive i h1).1 (hlive i' h2).1, fun i c h1 h2 h3 => ?_, fun i hi => hs.top i (by rw [kill_length] at hi; exact hi), fun c hc => ?_, hs.tabk (fun _ _ => rfl) fun _ h => .inl h⟩, ⟨rfl, rfl, rfl, .inr (Nat.le_refl _), Nat.le_refl _, fun _ _ _ => rfl, fun _ h => .inl h, fun c hc => ?_, fun i c h1 h2 => .inr ⟨i, (hlive i h1).1, h2⟩⟩⟩
 ·rw [getD_kill]
  cases hc : ks.contains i with
  | true => exact trivial
  | false => exact (hs.blk i).mono (fun _ _ => rfl) (fun _ h => .inl h) (fun _ _ => rfl) fun _ _ => rfl
 ·rcases h3 with h3 | ⟨j, hj, hlv, hb⟩
  ·exact hs.out i c (hlive i h1).1 h2 h3
  ·have e := hs.inj i j c (hlive i h1).1 hlv h2 hb
   subst e
   have := (hlive i h1).2
   simp at this
   exact this hj
 ·rcases hc with hc | ⟨j, hj, hlv, hb⟩
  ·exact hs.fin c hc
  ·exact hs.lt hlv hb
 ·rcases hc with hc | ⟨j, hj, hlv, hb⟩
  ·exact .inl hc
  ·exact .inr (.inr ⟨j, hlv, hb⟩)
end
section
variable {C : Cfg}
structure EnvR (C : Cfg) (w : World) (F : Nat → Prop) (σ : Sig) (env : List AV) (tmps : Array Value) : Prop where
 n : env.length = tmps.size
 at_ : ∀ t, VR C w F σ (env.getD t .u) (tmps.getD t undef)
theorem const_ok {w : World} {F : Nat → Prop} {σ : Sig} (v : Value) : VR C w F σ (constAV v) v := by
 unfold constAV
 split
 ·exact .one (by simp) .i
 ·exact .one (by simp) .b
 ·exact .one (by simp) .s
 ·exact .one (by simp) .z0
 ·exact .one (by simp) .z1
 ·exact .one (by simp) .z2
 ·exact .one (by simp) .z3
 ·exact .one (by simp) .z4
 ·exact .u
theorem ev_ok {w : World} {F : Nat → Prop} {σ : Sig} {env : List AV} {a : Act} (h : EnvR C w F σ env a.tmps) (x : Operand) : VR C w F σ (ev env x) (a.eval x) := by
 cases x with
 | tmp t => exact h.at_ t
 | const v => exact const_ok v
 | global g => exact .u
 | func f => exact .one (by simp [ev]) (.fn [] [] rfl rfl (fun j a c h => by simp at h) fun j a c h => by simp at h)
def OpOk (C : Cfg) (o : Oper) (F : Nat → Prop) (σ : Sig) (S : List Blk) (w : World) (a : Act) (slot : Nat) (v : AV) (S' : List Blk) (ks : List Nat) : Prop :=
 ∃ val w' F' σ', ((execOp a.eval o).run C.P w = .ok (.value val) w' ∨ ((execOp a.eval o).run C.P w = .ok .skip w' ∧ val = undef)) ∧ Sim C F' σ' S' w' ∧ Stp C F σ S w F' σ' S' w' ∧ (∀ id, σ id ≠ .no → σ' id = σ id) ∧
  (∀ id ∈ ks, ∀ b, live S id → (σ id).blk = some b → F' b ∧ w'.heap[b]? = w.heap[b]?) ∧ VR C w' F' σ' v val ∧ S'.length = S.length ∧ (∀ j, (j < slot ∨ slot + slotsOf o.op ≤ j) → S.getD j .dead = .dead → σ j = .no → S'.getD j .dead = .dead ∧ σ' j = .no)
theorem OpOk.still {o : Oper} {F : Nat → Prop} {σ : Sig} {S : List Blk} {w : World} {a : Act} {slot : Nat} {v : AV} {val : Value} (hs : Sim C F σ S w) (hr : (execOp a.eval o).run C.P w = .ok (.value val) w) (hv : VR C w F σ v val) : OpOk C o F σ S w a slot v S [] :=
 ⟨val, w, F, σ, .inl hr, hs, .refl, fun _ _ => rfl, fun id h => by simp at h, hv, rfl, fun j _ h1 h2 => ⟨h1, h2⟩⟩
theorem VR.i_inv {w : World} {F : Nat → Prop} {σ : Sig} {k : IntKind} {n : Int} {v : Value} (h : VR C w F σ (.i k n) v) : v = .int k n := by
 cases h with
 | one _ h => cases h; rfl
theorem VR.b_inv {w : World} {F : Nat → Prop} {σ : Sig} {x : Bool} {v : Value} (h : VR C w F σ (.b x) v) : v = .bool x := by
 cases h with
 | one _ h => cases h; rfl
theorem VR.s_inv {w : World} {F : Nat → Prop} {σ : Sig} {x : ByteArray} {v : Value} (h : VR C w F σ (.s x) v) : v = .string x := by
 cases h with
 | one _ h => cases h; rfl
theorem VR.one_inv {w : World} {F : Nat → Prop} {σ : Sig} {a : AV} {v : Value} (h : VR C w F σ a v) (h1 : ∀ fs, a ≠ .g fs) (h2 : a ≠ .u) (h3 : ∀ vs, a ≠ .t vs) : R C w F σ a [v] := by
 cases h with
 | u => exact absurd rfl h2
 | one _ h => exact h
 | agg => exact absurd rfl (h1 _)
 | t => exact absurd rfl (h3 _)
theorem VR.g_inv {w : World} {F : Nat → Prop} {σ : Sig} {fs : List AV} {v : Value} (h : VR C w F σ (.g fs) v) : ∃ cs, v = .agg cs.toArray ∧ R C w F σ (.g fs) cs := by
 cases h with
 | one h _ => exact absurd rfl (h fs)
 | agg h => exact ⟨_, rfl, h⟩
variable {F : Nat → Prop} {σ : Sig} {S : List Blk} {w : World} {env : List AV} {a : Act} {o : Oper} {slot : Nat} {α : Type} {K : KV α} {out : α}
theorem ok_move (hs : Sim C F σ S w) (he : EnvR C w F σ env a.tmps) {x : Operand} (ho : o.op = .move x ∨ o.op = .assign x) (h : K (ev env x) S [] = some out) : ∃ v S' ks, K v S' ks = some out ∧ OpOk C o F σ S w a slot v S' ks :=
 ⟨_, _, _, h, OpOk.still hs (by rcases ho with ho | ho <;> simp [execOp, ho, pure, Sem.run]) (ev_ok he x)⟩
theorem ok_un {op : UnOp} {T : TypeId} {x : Operand} (hs : Sim C F σ S w) (he : EnvR C w F σ env a.tmps) (ho : o.op = .unOp op T x) (h : opD C S env slot K o.op = some out) : ∃ v S' ks, K v S' ks = some out ∧ OpOk C o F σ S w a slot v S' ks := by
 rw [ho] at h
 simp only [opD] at h
 have hx := ev_ok he x
 unfold unD at h
 split at h
 ·rename_i k n ex
  rw [ex] at hx
  exact ⟨_, _, _, h, OpOk.still hs (val := .int k (k.wrap (0 - n))) (by simp [execOp, ho, hx.i_inv, Op.unary, Op.intArith, Sem.run_bind, pure, Sem.run]) (.one (by simp) .i)⟩
 ·rename_i n ex
  rw [ex] at hx
  exact ⟨_, _, _, h, OpOk.still hs (val := .bool !n) (by simp [execOp, ho, hx.b_inv, Op.unary, Sem.run_bind, pure, Sem.run]) (.one (by simp) .b)⟩
 ·rename_i k n ex
  rw [ex] at hx
  exact ⟨_, _, _, h, OpOk.still hs (val := .int k _) (by simp [execOp, ho, hx.i_inv, Op.unary, Op.intBits, Sem.run_bind, pure, Sem.run]) (.one (by simp) .i)⟩
 ·cases h
theorem ok_nilCheck {x : Operand} (hs : Sim C F σ S w) (he : EnvR C w F σ env a.tmps) (ho : o.op = .nilCheck x) (h : opD C S env slot K o.op = some out) : ∃ v S' ks, K v S' ks = some out ∧ OpOk C o F σ S w a slot v S' ks := by
 rw [ho] at h
 simp only [opD] at h
 have hx := ev_ok he x
 split at h <;> try (cases h; done)
 all_goals
  rename_i ex
  rw [ex] at hx
  have hv := hx
  have hr := hx.one_inv (by simp) (by simp) (by simp)
  refine ⟨_, _, _, h, OpOk.still hs (val := a.eval x) ?_ hv⟩
  simp only [execOp, ho]
  generalize a.eval x = y at hr ⊢
  cases hr <;> rfl
theorem ok_extract {x : Operand} {j : Nat} (hs : Sim C F σ S w) (he : EnvR C w F σ env a.tmps) (ho : o.op = .extract x j) (h : opD C S env slot K o.op = some out) : ∃ v S' ks, K v S' ks = some out ∧ OpOk C o F σ S w a slot v S' ks := by
 rw [ho] at h
 simp only [opD] at h
 have hx := ev_ok he x
 split at h <;> try (cases h; done)
 rename_i vs ex
 split at h <;> try (cases h; done)
 rename_i v hv
 rw [ex] at hx
 generalize hy : a.eval x = y at hx
 cases hx with
 | one h1 h2 => cases h2
 | t ws h1 h2 =>
  have hj := getElem?_lt hv
  obtain ⟨val, hval⟩ := getElem?_of_lt (l := ws) (j := j) (by omega)
  refine ⟨_, _, _, h, OpOk.still hs (val := val) ?_ (h2 j v val hv hval)⟩
  simp [execOp, ho, hy, Instr.extract, hval, Sem.run_bind, pure, Sem.run]
end
section
variable {C : Cfg}
theorem rangeAt_sub {w : World} {b o : Nat} {cs : List Value} (h : w.rangeAt b o cs) (i n : Nat) : w.rangeAt b (o + i) ((cs.drop i).take n) := fun j v hv => by
 rw [List.getElem?_take] at hv
 split at hv
 ·rw [List.getElem?_drop] at hv
  rw [Nat.add_assoc]
  exact h (i + j) v hv
 ·cases hv
theorem rangeAt_row {w : World} {b : Nat} {cur : Array Value} {t : TypeId} {fr : Nat × Nat} (h : w.heap[b]? = some (.cells cur t fr)) : w.rangeAt b 0 cur.toList := fun j v hv => by
 simp [World.cell?, h]
 rw [Array.getElem?_toList] at hv
 exact hv
theorem rangeAt_sub0 {w : World} {b : Nat} {cs : List Value} (h : w.rangeAt b 0 cs) (i n : Nat) : w.rangeAt b i ((cs.drop i).take n) := by
 have := rangeAt_sub h i n
 rwa [Nat.zero_add] at this
theorem rangeAt_append {w : World} {b o : Nat} {cs ds : List Value} (h : w.rangeAt b o cs) (k : w.rangeAt b (o + cs.length) ds) : w.rangeAt b o (cs ++ ds) := fun j v hv => by
 rw [List.getElem?_append] at hv
 split at hv
 ·exact h j v hv
 ·rename_i hj
  have := k (j - cs.length) v hv
  rwa [show o + cs.length + (j - cs.length) = o + j by omega] at this
theorem rangeAt_rows {w : World} {b o s : Nat} {cells : Nat → List Value} : ∀ n, (∀ j, j < n → (cells j).length = s ∧ w.rangeAt b (o + j * s) (cells j)) → ((List.range n).map cells).flatten.length = n * s ∧ w.rangeAt b o ((List.range n).map cells).flatten
 | 0, _ => ⟨by simp, fun j v hv => by simp at hv⟩
 | n + 1, h => by
  obtain ⟨h1, h2⟩ := rangeAt_rows n fun j hj => h j (by omega)
  obtain ⟨h3, h4⟩ := h n (by omega)
  rw [List.range_succ, List.map_append, List.flatten_append, List.map_singleton, List.flatten_singleton]
  refine ⟨by rw [List.length_append, h1, h3, Nat.add_mul]; omega, rangeAt_append h2 ?_⟩
  rw [h1]
  exact h4
theorem elem_at {w : World} {F : Nat → Prop} {e : TypeId} {xs : List AV} {b o c : Nat} (h : ArrAt C w F e xs b o c) {j : Nat} (hj : j < xs.length) : ∃ cs, Wt C e (xs.getD j .u) ∧ view C C.P.depth e (xs.getD j .u) = xs.getD j .u ∧ R C w F noSig (xs.getD j .u) cs ∧ cs.length = C.sz e ∧ w.rangeAt b (o + j * C.sz e) cs := by
 obtain ⟨_, cur, t, hh, hz, cells, hx⟩ := h
 obtain ⟨a, ha⟩ := getElem?_of_lt (l := xs) hj
 have e1 : xs.getD j .u = a := by simp [List.getD_eq_getElem?_getD, ha]
 obtain ⟨q1, q2, q3, q4⟩ := hx j a ha
 rw [e1]
 exact ⟨_, q1, q1.2, q2, q3, q4⟩
variable {F : Nat → Prop} {σ : Sig} {S : List Blk} {w : World} {env : List AV} {a : Act} {o : Oper} {slot : Nat} {α : Type} {K : KV α} {out : α}
theorem noSig_mono {w : World} {F : Nat → Prop} {a : AV} {cs : List Value} (h : R C w F noSig a cs) (σ : Sig) : R C w F σ a cs := h.mono (fun _ _ => rfl) (fun _ h => h) σ fun _ h => absurd rfl h
theorem ok_load (hl : layB C = true) {T : TypeId} {x : Operand} (hs : Sim C F σ S w) (he : EnvR C w F σ env a.tmps) (ho : o.op = .load T x) (h : opD C S env slot K o.op = some out) : ∃ v S' ks, K v S' ks = some out ∧ OpOk C o F σ S w a slot v S' ks := by
 rw [ho] at h
 simp only [opD] at h
 have hx := ev_ok he x
 have fin : ∀ (v : AV) (cs : List Value) (b off : Nat), K v S [] = some out → a.eval x = .pointer (some ⟨b, off, none⟩) → Sh C T v → R C w F σ v cs → w.rangeAt b off cs → ∃ v S' ks, K v S' ks = some out ∧ OpOk C o F σ S w a slot v S' ks := by
  intro v cs b off hK hp hsh hr hc
  obtain ⟨val, hv, hrun⟩ := load_ok hl hsh hr hc
  exact ⟨v, S, [], hK, OpOk.still hs (val := val) (by simp [execOp, ho, hp, hrun, Sem.run_bind, pure, Sem.run]) hv⟩
 split at h
 ·rename_i T' v ex
  split at h <;> try (cases h; done)
  rename_i hT
  subst hT
  rw [ex] at hx
  have hr := hx.one_inv (by simp) (by simp) (by simp)
  generalize hy : a.eval x = y at hr
  cases hr with
  | «at» h1 h2 h3 h4 h5 => exact fin _ _ _ _ h hy h2.1 (noSig_mono h5 σ) h3
 ·rename_i id path ex
  rw [ex] at hx
  have hr := hx.one_inv (by simp) (by simp) (by simp)
  have hb := hs.blk id
  split at h
  ·rename_i T' v hS
   split at h <;> try (cases h; done)
   rename_i hp
   rw [hS] at hb
   generalize hy : a.eval x = y at hr
   cases hr with
   | p h1 h2 =>
    rw [h1] at hb
    obtain ⟨rfl, hsh, cur, t, hh, hrr⟩ := hb
    obtain ⟨cs', r1, r2, r3, r4⟩ := path_at hl path _ T v cur.toList hsh hrr hp
    refine fin _ cs' _ _ h hy r2 r1 ?_
    rw [r4]
    exact rangeAt_sub0 (rangeAt_row hh) _ _
   | pa h1 => rw [h1] at hb; exact hb.elim
  ·rename_i e xs hS
   split at h <;> try (cases h; done)
   rename_i n e' hu
   split at h <;> try (cases h; done)
   rename_i hcond
   obtain ⟨rfl, rfl⟩ := hcond
   rw [hS] at hb
   generalize hy : a.eval x = y at hr
   cases hr with
   | p h1 h2 => rw [h1] at hb; exact hb.elim
   | pa h1 =>
    rw [h1] at hb
    obtain ⟨rfl, rfl, hA⟩ := hb
    have hA' := hA
    obtain ⟨_, cur, t, hh, hz, cells, hxs⟩ := hA
    have css : ∀ (j : Nat) c, ((List.range xs.length).map cells)[j]? = some c → j < xs.length ∧ c = cells j := fun j c hc => by
     have hj := getElem?_lt hc
     simp only [List.length_map, List.length_range] at hj
     rw [List.getElem?_map, List.getElem?_range hj] at hc
     exact ⟨hj, (Option.some.inj hc).symm⟩
    refine fin (.g xs) ((List.range xs.length).map cells).flatten _ _ h hy (.ga hu rfl fun j x hx => (hxs j x hx).1.1) (.g _ (by simp) fun j x c hx hc => ?_) ?_
    ·obtain ⟨_, rfl⟩ := css j c hc
     exact noSig_mono (hxs j x hx).2.1 σ
    ·exact (rangeAt_rows xs.length fun j hj => by
      obtain ⟨x, hx⟩ := getElem?_of_lt (l := xs) hj
      exact ⟨(hxs j x hx).2.2.1, (hxs j x hx).2.2.2⟩).2
  ·cases h
 ·rename_i id idx path ex
  rw [ex] at hx
  have hr := hx.one_inv (by simp) (by simp) (by simp)
  have hb := hs.blk id
  split at h <;> try (cases h; done)
  rename_i e xs hS
  split at h <;> try (cases h; done)
  rename_i hp
  rw [hS] at hb
  generalize hy : a.eval x = y at hr
  cases hr with
  | q h1 h2 h3 =>
   rw [h1] at hb
   obtain ⟨rfl, rfl, hA⟩ := hb
   obtain ⟨cs, w1, w2, w3, w4, w5⟩ := elem_at hA h2
   rw [w2] at h
   obtain ⟨cs', r1, r2, r3, r4⟩ := path_at hl path _ T _ cs w1.1 (noSig_mono w3 σ) hp
   refine fin _ cs' _ _ h hy r2 r1 ?_
   rw [r4]
   exact rangeAt_sub w5 _ _
 ·cases h
theorem elems_live {S : List Blk} {a : AV} {xs : List AV} (h : elems S a = some xs) : ∀ id ∈ ownId a, live S id := by
 intro id hid hd
 cases a <;> simp only [ownId, List.mem_singleton] at hid <;> try (cases hid; done)
 all_goals
  subst hid
  simp only [elems] at h
  try rw [hd] at h
  try (cases h; done)
theorem fz_live : ∀ (d : Nat) (T : TypeId) (a x : AV) (ks : List Nat), fz C S d T a = some (x, ks) → ∀ id ∈ ks, live S id
 | 0, T, a, x, ks, h => by simp [fz] at h
 | d + 1, T, a, x, ks, h => by
  intro id hid
  unfold fz at h
  split at h
  ·split at h
   ·simp only [Option.some.injEq, Prod.mk.injEq] at h; obtain ⟨_, rfl⟩ := h; simp at hid
   ·cases h
  ·simp only [Option.some.injEq, Prod.mk.injEq] at h; obtain ⟨_, rfl⟩ := h; simp at hid
  ·simp only [Option.some.injEq, Prod.mk.injEq] at h; obtain ⟨_, rfl⟩ := h; simp at hid
  ·split at h
   ·simp only [Option.some.injEq, Prod.mk.injEq] at h; obtain ⟨_, rfl⟩ := h; simp at hid
   ·cases h
  ·simp only [Option.some.injEq, Prod.mk.injEq] at h; obtain ⟨_, rfl⟩ := h; simp at hid
  ·split at h
   ·obtain ⟨xs, h1, h⟩ := Option.bind_eq_some_iff.mp h
    simp only [Option.some.injEq, Prod.mk.injEq] at h
    obtain ⟨_, rfl⟩ := h
    exact elems_live h1 id (by simpa [ownId] using hid)
   ·cases h
  ·split at h
   ·obtain ⟨xs, h1, h⟩ := Option.bind_eq_some_iff.mp h
    simp only [Option.some.injEq, Prod.mk.injEq] at h
    obtain ⟨_, rfl⟩ := h
    exact elems_live h1 id (by simpa [ownId] using hid)
   ·cases h
  ·obtain ⟨⟨xs, k⟩, h1, h⟩ := Option.bind_eq_some_iff.mp h
   simp only [Option.some.injEq, Prod.mk.injEq] at h
   obtain ⟨_, rfl⟩ := h
   refine fzL_live (fun T a x ks h => ?_) _ _ _ _ h1 id hid
   unfold fzN at h
   split at h
   ·split at h
    ·simp only [Option.some.injEq, Prod.mk.injEq] at h
     obtain ⟨_, rfl⟩ := h
     simp
    ·exact fz_live d T _ x ks h
   ·exact fz_live d T _ x ks h
  ·obtain ⟨⟨xs, k⟩, h1, h⟩ := Option.bind_eq_some_iff.mp h
   simp only [Option.some.injEq, Prod.mk.injEq] at h
   obtain ⟨_, rfl⟩ := h
   exact fzL_live (fun T a x ks h => fz_live d T a x ks h) _ _ _ _ h1 id hid
  ·cases h
where
 fzL_live {f : TypeId → AV → Option (AV × List Nat)} (h : ∀ T a x ks, f T a = some (x, ks) → ∀ id ∈ ks, live S id) : ∀ (Ts : List TypeId) (as xs : List AV) (ks : List Nat), fzL f Ts as = some (xs, ks) → ∀ id ∈ ks, live S id
  | [], [], xs, ks, he => by
   simp only [fzL, Option.some.injEq, Prod.mk.injEq] at he
   obtain ⟨rfl, rfl⟩ := he
   intro id hid; simp at hid
  | T :: Ts, a :: as, xs, ks, he => by
   simp only [fzL] at he
   obtain ⟨⟨x, k1⟩, h1, he⟩ := Option.bind_eq_some_iff.mp he
   obtain ⟨⟨ys, k2⟩, h2, he⟩ := Option.bind_eq_some_iff.mp he
   simp only [Option.some.injEq, Prod.mk.injEq] at he
   obtain ⟨rfl, rfl⟩ := he
   intro id hid
   rcases List.mem_append.mp hid with q | q
   ·exact h _ _ _ _ h1 id q
   ·exact fzL_live h Ts as ys k2 h2 id q
  | [], _ :: _, xs, ks, he => by simp [fzL] at he
  | _ :: _, [], xs, ks, he => by simp [fzL] at he
theorem fz_more (hl : layB C = true) (hs : Sim C F σ S w) {T : TypeId} {b x : AV} {ks : List Nat} {cs : List Value} (h : fz C S C.P.depth T b = some (x, ks)) (hr : R C w F σ b cs) : Wt C T x ∧ R C w (more F σ S ks) noSig x cs := by
 obtain ⟨q1, q2, q3⟩ := fz_sound hl hs (F' := more F σ S ks) (fun _ h => .inl h) _ T b x ks h cs (fun id hid b hb => .inr ⟨id, hid, fz_live _ _ _ _ _ h id hid, hb⟩) hr
 exact ⟨⟨q1, q2⟩, q3⟩
theorem more_nil {F : Nat → Prop} {σ : Sig} {S : List Blk} : more F σ S [] = F := by
 funext b
 simp [more]
theorem sh_of {d T : Nat} {x : AV} (h : sh C d T x = true) : Sh C T x := sh_sound d T x h
theorem notU {T : TypeId} {x : AV} (h : Sh C T x) : x ≠ .u := by cases h <;> simp
theorem rangeAt_set {w : World} {b : Nat} {cur new : Array Value} {t : TypeId} (hh : w.heap[b]? = some (.cells cur t (0, 0))) {o : Nat} {cs : List Value} (h : ∀ j v, cs[j]? = some v → new[o + j]? = some v) : (w.setRow b new).rangeAt b o cs := fun j v hv => by
 have := setRow_heap w b cur new t (0, 0) hh
 simp [World.cell?, this, h j v hv]
theorem rangeAt_new {w : World} {b : Nat} {cur new : Array Value} {t : TypeId} (hh : w.heap[b]? = some (.cells cur t (0, 0))) {o : Nat} {cs : List Value} (h : w.rangeAt b o cs) (he : ∀ j, j < cs.length → new[o + j]? = cur[o + j]?) : (w.setRow b new).rangeAt b o cs := rangeAt_set hh fun j v hv => by
 rw [he j (getElem?_lt hv)]
 have := h j v hv
 simpa [World.cell?, hh] using this
theorem rangeAt_take {w : World} {b : Nat} {cur : Array Value} {t : TypeId} {fr : Nat × Nat} (hh : w.heap[b]? = some (.cells cur t fr)) {o : Nat} {cs : List Value} (h : w.rangeAt b o cs) : (cur.toList.drop o).take cs.length = cs := by
 apply List.ext_getElem?
 intro j
 rw [List.getElem?_take]
 split
 ·rename_i hj
  obtain ⟨v, hv⟩ := getElem?_of_lt (l := cs) hj
  have := h j v hv
  simp [World.cell?, hh] at this
  rw [List.getElem?_drop, hv, Array.getElem?_toList, this]
 ·rename_i hj
  rw [List.getElem?_eq_none (by omega)]
theorem Wt.elem {T n e : TypeId} {as : List AV} (h : Wt C T (.g as)) (hu : C.und T = some (.array n e)) : as.length = n ∧ ∀ (j : Nat) a, as[j]? = some a → Wt C e a := by
 obtain ⟨hs, hv⟩ := h
 cases hs with
 | g hu' => rw [hu] at hu'; simp at hu'
 | ga hu' hn hfs =>
  rw [hu] at hu'
  simp only [Option.some.injEq, TypeDesc.array.injEq] at hu'
  obtain ⟨rfl, rfl⟩ := hu'
  refine ⟨hn, fun j a ha => ⟨hfs j a ha, ?_⟩⟩
  cases hd : C.P.depth with
  | zero => rw [hd] at hv; simp [view] at hv
  | succ d =>
   rw [hd] at hv
   simp only [view, hu, AV.g.injEq] at hv
   exact view_mono d e a (hfs j a ha) ((map_range n as (view C d e) hn).mp hv j a ha)
theorem row_of_g (hl : layB C = true) {w : World} {F : Nat → Prop} {T n e : TypeId} {ys : List AV} {cs : List Value} (h : Wt C T (.g ys)) (hu : C.und T = some (.array n e)) (hr : R C w F noSig (.g ys) cs) :
  ys.length = n ∧ cs.length = n * C.sz e ∧ ∃ cells : Nat → List Value, ∀ (j : Nat) y, ys[j]? = some y → Wt C e y ∧ R C w F noSig y (cells j) ∧ (cells j).length = C.sz e ∧ (cs.drop (j * C.sz e)).take (C.sz e) = cells j := by
 obtain ⟨hn, hw⟩ := h.elem hu
 cases hr with
 | g css h1 h2 =>
  have hlen : ∀ (j : Nat) c m, css[j]? = some c → (List.replicate n (C.sz e))[j]? = some m → c.length = m := fun j c m hc hm => by
   have hj := getElem?_lt hc
   obtain ⟨y, hy⟩ := getElem?_of_lt (l := ys) (j := j) (by omega)
   have hm := List.mem_of_getElem? hm
   simp only [List.mem_replicate] at hm
   rw [hm.2]
   exact sh_len hl (hw j y hy).1 (h2 j y c hy hc)
  obtain ⟨f1, f2⟩ := flat_at css (List.replicate n (C.sz e)) (by simp [h1, hn]) hlen
  refine ⟨hn, by rw [f1]; simp, fun j => css.getD j [], fun j y hy => ?_⟩
  have hj := getElem?_lt hy
  obtain ⟨c, hc⟩ := getElem?_of_lt (l := css) (j := j) (by omega)
  have e1 : css.getD j [] = c := by simp [List.getD_eq_getElem?_getD, hc]
  have e2 := hlen j c (C.sz e) hc (by rw [List.getElem?_replicate, if_pos (by omega)])
  dsimp only
  rw [e1]
  refine ⟨hw j y hy, h2 j y c hy hc, e2, ?_⟩
  have := f2 j c hc
  rw [List.take_replicate, Nat.min_eq_left (by omega)] at this
  simp only [List.sum_replicate_nat, e2] at this
  simpa using this
theorem rangeAt_part {w : World} {b o s j : Nat} {cs c : List Value} (h : w.rangeAt b o cs) (hc : (cs.drop (j * s)).take s = c) : w.rangeAt b (o + j * s) c := by
 rw [← hc]
 exact rangeAt_sub h _ _
theorem ok_store (hl : layB C = true) {T' : TypeId} {x y : Operand} (hs : Sim C F σ S w) (he : EnvR C w F σ env a.tmps) (ho : o.op = .store T' x y) (h : opD C S env slot K o.op = some out) : ∃ v S' ks, K v S' ks = some out ∧ OpOk C o F σ S w a slot v S' ks := by
 rw [ho] at h
 simp only [opD] at h
 have hx := ev_ok he x
 have hy := ev_ok he y
 have hlen : ∀ (S' : List Blk) (id : Nat) (B : Blk), live S' id → (∀ j, S.getD j .dead = .dead → S'.getD j .dead = .dead) → ∀ j, (j < slot ∨ slot + slotsOf o.op ≤ j) → S.getD j .dead = .dead → σ j = .no → (S'.set id B).getD j .dead = .dead ∧ σ j = .no := fun S' id B hlv hd j _ h1 h2 => by
  refine ⟨?_, h2⟩
  by_cases e : j = id
  ·subst e
   exact absurd (hd j h1) hlv
  ·rw [getD_set_ne e]
   exact hd j h1
 split at h
 ·rename_i id path ex
  rw [ex] at hx
  have hr := hx.one_inv (by simp) (by simp) (by simp)
  have hb := hs.blk id
  split at h
  ·rename_i T v hS
   split at h <;> try (cases h; done)
   rename_i hcond
   obtain ⟨hp, hsh⟩ := hcond
   have hsy := sh_of hsh
   have hlv : live S id := by unfold live; rw [hS]; simp
   rw [hS] at hb
   generalize hpv : a.eval x = p at hr
   cases hr with
   | p h1 h2 =>
    rename_i b T2 T3
    have hblk : (σ id).blk = some b := by rw [h1]; rfl
    rw [h1] at hb
    obtain ⟨rfl, hshv, cur, t, hh, hrr⟩ := hb
    have hry := hy.cells hsy
    obtain ⟨cs', r1, r2, r3, r4⟩ := path_at hl path _ T' v cur.toList hshv hrr hp
    obtain ⟨z1, z2⟩ := isAgg_store hl hsy hy hh (o := poff C _ path) (by simpa using r3)
    obtain ⟨s1, s2⟩ := set_path hl hsy hry path _ v cur.toList hshv hrr hp
    obtain ⟨m1, m2⟩ := hs.set hlv hblk (cur.toList.take (poff C _ path) ++ (a.eval y).cells.toList ++ cur.toList.drop (poff C _ path + C.sz T')).toArray (.obj _ (setPath (ev env y) v path)) (by
     rw [h1]
     refine ⟨rfl, s1, _, t, setRow_heap w b cur _ _ (0, 0) hh, ?_⟩
     exact s2.mono (fun c hc => setRow_other w b c _ fun e => hs.out id b hlv hblk (e ▸ hc)) (fun _ h => h) σ fun _ _ => rfl)
    refine ⟨_, _, _, h, undef, _, F, σ, .inr ⟨?_, rfl⟩, m1, m2, fun _ _ => rfl, fun k hk => by simp at hk, .u, List.length_set .., hlen S id _ hlv fun _ h => h⟩
    simp [execOp, ho, hpv, z2, Sem.run_bind, pure, Sem.run]
   | pa h1 => rw [h1] at hb; exact hb.elim
  ·rename_i e xs hS
   split at h <;> try (cases h; done)
   rename_i n e' ys hu hz
   split at h <;> try (cases h; done)
   rename_i hcond
   obtain ⟨rfl, rfl⟩ := hcond
   have hlv : live S id := by unfold live; rw [hS]; simp
   rw [hS] at hb
   generalize hpv : a.eval x = p at hr
   cases hr with
   | p h1 h2 => rw [h1] at hb; exact hb.elim
   | pa h1 =>
    rename_i b o1 n c e1
    have hblk : (σ id).blk = some b := by rw [h1]; rfl
    rw [h1] at hb
    obtain ⟨he1, rfl, hc, cur, t, hh, hzz, cells, hxs⟩ := hb
    subst he1
    obtain ⟨zs, hyg⟩ : ∃ zs, ev env y = .g zs := by
     cases hd : C.P.depth with
     | zero => rw [hd] at hz; simp [fz] at hz
     | succ d =>
      rw [hd] at hz
      unfold fz at hz
      rw [hu] at hz
      split at hz <;> try (simp at hz; done)
      all_goals first
       | exact ⟨_, by assumption⟩
       | (rename_i hx _; simp at hx)
       | (cases hz; done)
       | skip
    rw [hyg] at hz hy
    obtain ⟨cs, hya, hry⟩ := hy.g_inv
    obtain ⟨f1, f2⟩ := fz_more hl hs hz hry
    rw [more_nil] at f2
    obtain ⟨g1, g2, cells2, g3⟩ := row_of_g hl f1 hu f2
    have hsh : Sh C T' (.g ys) := f1.1
    have hvr : VR C w F noSig (.g ys) (a.eval y) := by rw [hya]; exact .agg f2
    have hszT := lay_array hl hu
    have hle : o1 + C.sz T' ≤ cur.size := by
     have : xs.length * C.sz e1 ≤ c * C.sz e1 := Nat.mul_le_mul_right _ hc
     rw [hszT]
     omega
    obtain ⟨z1, z2⟩ := isAgg_store hl hsh hvr hh hle
    have hcells : (a.eval y).cells.toList = cs := by rw [hya]; rfl
    rw [hcells] at z1 z2
    obtain ⟨m1, m2⟩ := hs.set hlv hblk (cur.toList.take o1 ++ cs ++ cur.toList.drop (o1 + C.sz T')).toArray (.arr _ ys) (by
     rw [h1]
     have hFk : ∀ c, F c → (w.setRow b (cur.toList.take o1 ++ cs ++ cur.toList.drop (o1 + C.sz T')).toArray).heap[c]? = w.heap[c]? := fun c hc => setRow_other w b c _ fun e => hs.out id b hlv hblk (e ▸ hc)
     have hl1 : (cur.toList.take o1).length = o1 := by rw [List.length_take]; simp; omega
     have hrg : (w.setRow b (cur.toList.take o1 ++ cs ++ cur.toList.drop (o1 + C.sz T')).toArray).rangeAt b o1 cs := rangeAt_set hh fun j v hv => by
      have hj := getElem?_lt hv
      rw [List.getElem?_toArray, List.append_assoc, List.getElem?_append, hl1, if_neg (by omega), List.getElem?_append, if_pos (by omega), Nat.add_sub_cancel_left]
      exact hv
     refine ⟨rfl, g1.symm, by omega, _, t, setRow_heap w b cur _ t (0, 0) hh, by simp only [List.size_toArray, List.length_append, hl1, List.length_drop, Array.length_toList, z1]; omega, cells2, fun j v hv => ?_⟩
     obtain ⟨q1, q2, q3, q4⟩ := g3 j v hv
     exact ⟨q1, q2.mono hFk (fun _ h => h) noSig (fun _ _ => rfl), q3, rangeAt_part hrg q4⟩)
    refine ⟨_, _, _, h, undef, _, F, σ, .inr ⟨?_, rfl⟩, m1, m2, fun _ _ => rfl, fun k hk => by simp at hk, .u, List.length_set .., hlen S id _ hlv fun _ h => h⟩
    simp [execOp, ho, hpv, z2, Sem.run_bind, pure, Sem.run]
  ·cases h
 ·rename_i id idx path ex
  rw [ex] at hx
  have hr := hx.one_inv (by simp) (by simp) (by simp)
  have hb := hs.blk id
  split at h <;> try (cases h; done)
  rename_i e xs hS
  split at h <;> try (cases h; done)
  rename_i hcond
  obtain ⟨hp, hsh⟩ := hcond
  split at h <;> try (cases h; done)
  rename_i z hz
  split at h <;> try (cases h; done)
  rename_i hnid
  have hsy := sh_of hsh
  have hlv : live S id := by unfold live; rw [hS]; simp
  have hry := hy.cells hsy
  rw [hS] at hb
  generalize hpv : a.eval x = p at hr
  cases hr with
  | q h1 h2 h3 =>
   rename_i b o1 n c e1 T3
   have hblk : (σ id).blk = some b := by rw [h1]; rfl
   have hb0 := hb
   rw [h1] at hb
   obtain ⟨rfl, rfl, hA⟩ := hb
   obtain ⟨cs, w1, w2, w3, w4, w5⟩ := elem_at hA h2
   rw [w2] at hz
   obtain ⟨cs', r1, r2, r3, r4⟩ := path_at hl path _ T' _ cs w1.1 (noSig_mono w3 σ) hp
   obtain ⟨s1, s2⟩ := set_path hl hsy hry path _ _ cs w1.1 (noSig_mono w3 σ) hp
   obtain ⟨f1, f2⟩ := fz_more hl hs hz s2
   obtain ⟨n1, n2⟩ := hs.open_ z.2
   obtain ⟨hc, cur, t, hh, hzz, cells, hxs⟩ := hA
   have hidx : o1 + idx * C.sz e1 + C.sz e1 ≤ o1 + c * C.sz e1 := by
    have : (idx + 1) * C.sz e1 ≤ c * C.sz e1 := Nat.mul_le_mul_right _ (by omega)
    rw [Nat.add_mul] at this
    omega
   obtain ⟨z1, z2⟩ := isAgg_store hl hsy hy hh (o := o1 + idx * C.sz e1 + poff C e1 path) (by omega)
   have hlv1 : live (kill z.2 S) id := by
    unfold live
    rw [getD_kill, hnid]
    exact hlv
   have hcsl : (cs.take (poff C e1 path) ++ (a.eval y).cells.toList ++ cs.drop (poff C e1 path + C.sz T')).length = C.sz e1 := by
    simp only [List.length_append, List.length_take, List.length_drop]
    omega
   have hcur : ∀ j, j < C.sz e1 → cur[o1 + idx * C.sz e1 + j]? = cs[j]? := fun j hj => by
    obtain ⟨v, hv⟩ := getElem?_of_lt (l := cs) (j := j) (by omega)
    have := w5 j v hv
    rw [hv]
    simpa [World.cell?, hh] using this
   -- the row behind the store
   obtain ⟨new, hnew⟩ : ∃ new, new = (cur.toList.take (o1 + idx * C.sz e1 + poff C e1 path) ++ (a.eval y).cells.toList ++ cur.toList.drop (o1 + idx * C.sz e1 + poff C e1 path + C.sz T')).toArray := ⟨_, rfl⟩
   have hget : ∀ i, new[i]? = if i < o1 + idx * C.sz e1 + poff C e1 path then cur[i]? else if i < o1 + idx * C.sz e1 + poff C e1 path + C.sz T' then (a.eval y).cells.toList[i - (o1 + idx * C.sz e1 + poff C e1 path)]? else cur[i]? := fun i => by
    have hl1 : (cur.toList.take (o1 + idx * C.sz e1 + poff C e1 path)).length = o1 + idx * C.sz e1 + poff C e1 path := by rw [List.length_take]; simp; omega
    rw [hnew, List.getElem?_toArray, List.append_assoc, List.getElem?_append, hl1]
    split
    ·rename_i hi
     rw [List.getElem?_take, if_pos hi, Array.getElem?_toList]
    ·rename_i hi
     rw [List.getElem?_append, z1]
     by_cases hi2 : i < o1 + idx * C.sz e1 + poff C e1 path + C.sz T'
     ·rw [if_pos (by omega), if_pos hi2]
     ·rw [if_neg (by omega), if_neg hi2, List.getElem?_drop, Array.getElem?_toList]
      congr 1
      omega
   have hsize : new.size = cur.size := by
    rw [hnew]
    simp only [List.size_toArray, List.length_append, List.length_take, List.length_drop, Array.length_toList, z1]
    omega
   rw [← hnew] at z2
   obtain ⟨m1, m2⟩ := n1.set hlv1 hblk new (.arr e1 (xs.set idx z.1)) (by
    rw [h1]
    refine ⟨rfl, by simp, by simpa using hc, new, t, setRow_heap w b cur _ t (0, 0) hh, by rw [hsize]; exact hzz, fun j => if j = idx then cs.take (poff C e1 path) ++ (a.eval y).cells.toList ++ cs.drop (poff C e1 path + C.sz T') else cells j, fun j v hv => ?_⟩
    have hFk : ∀ c, more F σ S z.2 c → (w.setRow b new).heap[c]? = w.heap[c]? := fun c hc => setRow_other w b c _ fun e => n1.out id b hlv1 hblk (e ▸ hc)
    by_cases ej : j = idx
    ·subst ej
     rw [List.getElem?_set_self h2] at hv
     obtain rfl := Option.some.inj hv
     dsimp only
     rw [if_pos rfl]
     refine ⟨f1, f2.mono hFk (fun _ h => h) noSig (fun _ _ => rfl), hcsl, rangeAt_set hh fun i u hu => ?_⟩
     have hi := getElem?_lt hu
     rw [hcsl] at hi
     have hl2 : (cs.take (poff C e1 path)).length = poff C e1 path := by rw [List.length_take]; omega
     rw [List.append_assoc, List.getElem?_append, hl2] at hu
     rw [hget]
     by_cases i1 : i < poff C e1 path
     ·rw [if_pos i1, List.getElem?_take, if_pos i1] at hu
      rw [if_pos (by omega), hcur i hi, hu]
     ·rw [if_neg i1, List.getElem?_append, z1] at hu
      by_cases i2 : i - poff C e1 path < C.sz T'
      ·rw [if_pos i2] at hu
       rw [if_neg (by omega), if_pos (by omega), ← hu]
       congr 1
       omega
      ·rw [if_neg i2, List.getElem?_drop] at hu
       rw [if_neg (by omega), if_neg (by omega), hcur i hi, ← hu]
       congr 1
       omega
    ·rw [List.getElem?_set_ne (Ne.symm ej)] at hv
     dsimp only
     rw [if_neg ej]
     obtain ⟨q1, q2, q3, q4⟩ := hxs j v hv
     have hj := getElem?_lt hv
     refine ⟨q1, (q2.keepF (fun _ h => .inl h)).mono hFk (fun _ h => h) noSig (fun _ _ => rfl), q3, rangeAt_new hh q4 fun i hi => ?_⟩
     rw [q3] at hi
     rw [hget]
     rcases Nat.lt_or_gt_of_ne ej with q | q
     ·have : (j + 1) * C.sz e1 ≤ idx * C.sz e1 := Nat.mul_le_mul_right _ q
      rw [Nat.add_mul] at this
      rw [if_pos (by omega)]
     ·have : (idx + 1) * C.sz e1 ≤ j * C.sz e1 := Nat.mul_le_mul_right _ q
      rw [Nat.add_mul] at this
      rw [if_neg (by omega), if_neg (by omega)])
   refine ⟨_, _, _, h, undef, _, _, σ, .inr ⟨?_, rfl⟩, m1, n2.trans m2, fun _ _ => rfl, fun k hk b' hkl hkb => ⟨Or.inr ⟨k, hk, hkl, hkb⟩, setRow_other w b b' _ fun eb => ?_⟩, .u, by rw [List.length_set, kill_length], hlen _ id _ hlv1 fun j hj => by rw [getD_kill, hj]; simp⟩
   ·simp [execOp, ho, hpv, z2, Sem.run_bind, pure, Sem.run]
   ·have := hs.inj k id b' hkl hlv hkb (by rw [hblk, eb])
    subst this
    rw [List.contains_eq_mem] at hnid
    simp at hnid
    exact hnid hk
 ·cases h
end
section
variable {C : Cfg}
theorem pty_append : ∀ (p q : List Nat) (T s : TypeId), pty C T p = some s → pty C T (p ++ q) = pty C s q ∧ poff C T (p ++ q) = poff C T p + poff C s q
 | [], q, T, s, h => by
  simp only [pty, Option.some.injEq] at h
  subst h
  simp [poff]
 | j :: p, q, T, s, h => by
  simp only [pty] at h
  split at h
  ·rename_i fs hu
   split at h
   ·rename_i f hf
    obtain ⟨h1, h2⟩ := pty_append p q f.type s h
    simp only [List.cons_append, pty, poff, hu, hf]
    exact ⟨h1, by rw [h2]; omega⟩
   ·cases h
  ·cases h
theorem field_one {s j T' : Nat} (h : pty C s [j] = some T') : ∃ fs f, C.und s = some (.struct fs) ∧ fs[j]? = some f ∧ T' = f.type ∧ poff C s [j] = f.offset := by
 simp only [pty] at h
 split at h
 ·rename_i fs hu
  split at h
  ·rename_i f hf
   simp only [Option.some.injEq] at h
   exact ⟨fs, f, hu, hf, h.symm, by simp [poff, hu, hf]⟩
  ·cases h
 ·cases h
theorem fieldAt_ok {w : World} {s j T' b off : Nat} (h : pty C s [j] = some T') (hn : C.P.cellsOf T' ≠ 0) : (Instr.fieldAt s (.pointer (some ⟨b, off, none⟩)) j).run C.P w = .ok (.pointer (some ⟨b, off + poff C s [j], none⟩)) w := by
 obtain ⟨fs, f, hu, hf, rfl, ho⟩ := field_one h
 rw [ho]
 unfold Program.cellsOf at hn
 cases hi : C.P.info? f.type with
 | none => rw [hi] at hn; simp at hn
 | some i =>
  rw [hi] at hn
  simp only [Option.map_some, Option.getD_some] at hn
  have hsz : (sizeOf f.type).run C.P w = .ok i.size w := by simp [sizeOf, typeInfo, hi, Sem.run_bind, pure, Sem.run]
  simp [Instr.fieldAt, Sem.run_bind, run_underlying (und_P hu) w, hf, Instr.sureAddr, fieldPlace, hsz, hn, Addr.add_mid, pure, Sem.run]
theorem pok_pty {T : TypeId} {path : List Nat} (h : pok C T path = true) : ∃ T', pty C T path = some T' ∧ C.P.cellsOf T' ≠ 0 := by
 unfold pok at h
 split at h
 ·rename_i T' hp
  exact ⟨T', hp, by simpa using h⟩
 ·cases h
variable {F : Nat → Prop} {σ : Sig} {S : List Blk} {w : World} {env : List AV} {a : Act} {o : Oper} {slot : Nat} {α : Type} {K : KV α} {out : α}
theorem ok_fieldAddr (hl : layB C = true) {s j : Nat} {x : Operand} (hs : Sim C F σ S w) (he : EnvR C w F σ env a.tmps) (ho : o.op = .fieldAddr s x j) (h : opD C S env slot K o.op = some out) : ∃ v S' ks, K v S' ks = some out ∧ OpOk C o F σ S w a slot v S' ks := by
 rw [ho] at h
 simp only [opD] at h
 have hx := ev_ok he x
 split at h
 ·rename_i id path ex
  rw [ex] at hx
  have hr := hx.one_inv (by simp) (by simp) (by simp)
  have hb := hs.blk id
  split at h <;> try (cases h; done)
  rename_i T v hS
  split at h <;> try (cases h; done)
  rename_i hcond
  obtain ⟨hp, hk⟩ := hcond
  rw [hS] at hb
  generalize hpv : a.eval x = p at hr
  cases hr with
  | p h1 h2 =>
   rw [h1] at hb
   obtain ⟨rfl, _⟩ := hb
   obtain ⟨T2, h3, h4⟩ := pok_pty hk
   obtain ⟨q1, q2⟩ := pty_append path [j] _ s hp
   have h5 := h3
   rw [q1] at h5
   refine ⟨_, _, _, h, OpOk.still hs (val := .pointer (some ⟨_, poff C _ (path ++ [j]), none⟩)) ?_ (.one (by simp) (.p h1 h3))⟩
   rw [q2]
   simp [execOp, ho, hpv, fieldAt_ok h5 h4, Sem.run_bind, pure, Sem.run]
  | pa h1 => rw [h1] at hb; exact hb.elim
 ·rename_i id idx path ex
  rw [ex] at hx
  have hr := hx.one_inv (by simp) (by simp) (by simp)
  have hb := hs.blk id
  split at h <;> try (cases h; done)
  rename_i e xs hS
  split at h <;> try (cases h; done)
  rename_i hcond
  obtain ⟨hp, hk⟩ := hcond
  rw [hS] at hb
  generalize hpv : a.eval x = p at hr
  cases hr with
  | q h1 h2 h3 =>
   rw [h1] at hb
   obtain ⟨rfl, rfl, _⟩ := hb
   obtain ⟨T2, h4, h5⟩ := pok_pty hk
   obtain ⟨q1, q2⟩ := pty_append path [j] _ s hp
   have h6 := h4
   rw [q1] at h6
   refine ⟨_, _, _, h, OpOk.still hs ?_ (.one (by simp) (.q h1 h2 h4))⟩
   rw [q2]
   simp [execOp, ho, hpv, fieldAt_ok h6 h5, Sem.run_bind, pure, Sem.run, Nat.add_assoc]
 ·rename_i T v ex
  split at h <;> try (cases h; done)
  rename_i hcond
  obtain ⟨rfl, hk, hraw⟩ := hcond
  obtain ⟨T2, h4, h5⟩ := pok_pty hk
  rw [h4] at h
  rw [ex] at hx
  have hr := hx.one_inv (by simp) (by simp) (by simp)
  generalize hpv : a.eval x = p at hr
  obtain ⟨fs, f, hu, hf, rfl, hof⟩ := field_one h4
  cases hr with
  | «at» g1 g2 g3 g4 g5 =>
   rename_i b o1 cs
   obtain ⟨as, css, rfl, rfl, P⟩ := g2.1.parts hu g5
   obtain ⟨c, d, hc, hd⟩ := P.at_ hf
   obtain ⟨cs', r1, r2, r3, r4⟩ := path_at hl [j] T f.type _ _ g2.1 g5 h4
   have hfl : (AV.g as).fld j = c := fld_at hc
   have hgp : getPath (AV.g as) [j] = c := by simp [getPath, hfl]
   rw [hgp] at r1 r2
   rw [hfl] at h
   refine ⟨_, _, _, h, OpOk.still hs (val := .pointer (some ⟨b, o1 + poff C T [j], none⟩)) ?_ (.one (by simp) (.at (cs := cs') g1 (g2.field hraw hu hf hc) ?_ ?_ r1))⟩
   ·simp [execOp, ho, hpv, fieldAt_ok h4 h5, Sem.run_bind, pure, Sem.run]
   ·rw [r4]
    exact rangeAt_sub g3 _ _
   ·rw [r4, List.length_take, List.length_drop]
    omega
 ·cases h
theorem part_ok (hl : layB C = true) {w : World} {F : Nat → Prop} {σ : Sig} {T : TypeId} {v : AV} {cs c : List Value} {off : Nat} (hs : Sh C T v) (hr : R C w F σ v c) (hc : c = (cs.drop off).take (C.sz T)) (hle : off + C.sz T ≤ cs.length) : ∃ val, VR C w F σ v val ∧ (part T cs.toArray off).run C.P w = .ok val w := by
 have hlen := sh_len hl hs hr
 have row : ∀ d, C.und T = some d → d.isRow = true → (∃ fs, v = .g fs) → ∃ val, VR C w F σ v val ∧ (part T cs.toArray off).run C.P w = .ok val w := by
  rintro d hu hd ⟨fs, rfl⟩
  refine ⟨.agg c.toArray, .agg hr, ?_⟩
  have hagg : (isAgg T).run C.P w = .ok true w := by
   unfold isAgg
   rw [Sem.run_bind, run_underlying (und_P hu) w]
   cases d <;> simp_all
  have hi := sz_info hu
  cases hq : C.P.info? T with
  | none => rw [hq] at hi; cases hi
  | some i =>
   rw [hq] at hi
   simp only [Option.map_some, Option.some.injEq] at hi
   simp [part, Sem.run_bind, hagg, sizeOf, typeInfo, hq, hi, pure, Sem.run]
   rw [hc]
 have one : ∀ d, C.und T = some d → d.isRow = false → (∀ fs, v ≠ .g fs) → (∃ u, c = [u]) → ∃ val, VR C w F σ v val ∧ (part T cs.toArray off).run C.P w = .ok val w := by
  rintro d hu hd ha ⟨u, rfl⟩
  refine ⟨u, .one ha hr, ?_⟩
  have hagg : (isAgg T).run C.P w = .ok false w := by
   unfold isAgg
   rw [Sem.run_bind, run_underlying (und_P hu) w]
   cases d <;> simp_all
  have hget : cs[off]? = some u := by
   have := congrArg (·[0]?) hc
   simp only [List.getElem?_cons_zero] at this
   rw [List.getElem?_take, if_pos (by simp at hlen; omega), List.getElem?_drop] at this
   simpa using this.symm
  simp [part, Sem.run_bind, hagg, hget, pure, Sem.run]
 cases hs with
 | g hu => exact row _ hu rfl ⟨_, rfl⟩
 | ga hu => exact row _ hu rfl ⟨_, rfl⟩
 | _ hu => exact one _ hu rfl (by simp) (by cases hr <;> exact ⟨_, rfl⟩)
theorem ok_field (hl : layB C = true) {s j : Nat} {x : Operand} (hs : Sim C F σ S w) (he : EnvR C w F σ env a.tmps) (ho : o.op = .field s x j) (h : opD C S env slot K o.op = some out) : ∃ v S' ks, K v S' ks = some out ∧ OpOk C o F σ S w a slot v S' ks := by
 rw [ho] at h
 simp only [opD] at h
 have hx := ev_ok he x
 split at h <;> try (cases h; done)
 rename_i hcond
 obtain ⟨hsh, hp⟩ := hcond
 obtain ⟨T', hp⟩ := Option.isSome_iff_exists.mp hp
 obtain ⟨fs, f, hu, hf, rfl, hof⟩ := field_one hp
 have hsx := sh_of hsh
 have hrx := hx.cells hsx
 obtain ⟨as, css, hg, hcs, P⟩ := hsx.parts hu hrx
 rw [hg] at hx hrx hsx h
 obtain ⟨cs, hv, hrc⟩ := hx.g_inv
 obtain ⟨cs', r1, r2, r3, r4⟩ := path_at hl [j] s f.type _ _ hsx hrc hp
 have hgp : getPath (AV.g as) [j] = (AV.g as).fld j := rfl
 rw [hgp] at r1 r2
 obtain ⟨val, hval, hrun⟩ := part_ok hl r2 r1 r4 r3
 refine ⟨_, _, _, h, OpOk.still hs (val := val) ?_ hval⟩
 rw [hof] at hrun
 simp [execOp, ho, hv, Instr.field, Sem.run_bind, run_underlying (und_P hu) w, hf, asAgg, hrun, pure, Sem.run]
theorem run_sizeOf {w : World} {T : TypeId} {d : TypeDesc} (h : C.und T = some d) : (sizeOf T).run C.P w = .ok (C.sz T) w := by
 have hi := sz_info h
 cases hq : C.P.info? T with
 | none => rw [hq] at hi; cases hi
 | some i =>
  rw [hq] at hi
  simp only [Option.map_some, Option.some.injEq] at hi
  simp [sizeOf, typeInfo, hq, hi, Sem.run_bind, pure, Sem.run]
theorem sh_und {T : TypeId} {x : AV} (h : Sh C T x) : ∃ d, C.und T = some d := by cases h <;> exact ⟨_, by assumption⟩
theorem indexAt_slice {w : World} {T e : TypeId} {d : TypeDesc} (hu : C.und T = some (.slice e)) (hd : C.und e = some d) {k : IntKind} {n : Int} {b off len cap : Nat} (h0 : 0 ≤ n) (h1 : n < (len : Int)) : (Instr.indexAt T (.slice (some ⟨b, off, none⟩) len cap) (.int k n)).run C.P w = .ok (.pointer (some ⟨b, off + n.toNat * C.sz e, none⟩)) w := by
 simp [Instr.indexAt, Sem.run_bind, asIntOf, run_underlying (und_P hu) w, pure, Sem.run, h0, h1, run_sizeOf hd, Addr.add_mid]
theorem ok_indexAddr (hl : layB C = true) {T : TypeId} {x ix : Operand} (hs : Sim C F σ S w) (he : EnvR C w F σ env a.tmps) (ho : o.op = .indexAddr T x ix) (h : opD C S env slot K o.op = some out) : ∃ v S' ks, K v S' ks = some out ∧ OpOk C o F σ S w a slot v S' ks := by
 rw [ho] at h
 simp only [opD] at h
 have hx := ev_ok he x
 have hi := ev_ok he ix
 split at h <;> try (cases h; done)
 rename_i k n eix
 rw [eix] at hi
 have hiv := hi.i_inv
 split at h
 ·rename_i e' e xs hu ex
  split at h <;> try (cases h; done)
  rename_i hee
  subst hee
  split at h <;> try (cases h; done)
  rename_i hn
  rw [ex] at hx
  have hr := hx.one_inv (by simp) (by simp) (by simp)
  have hj : n.toNat < xs.length := by omega
  obtain ⟨y, hy⟩ := getElem?_of_lt (l := xs) hj
  have e1 : xs.getD n.toNat .u = y := by simp [List.getD_eq_getElem?_getD, hy]
  generalize hpv : a.eval x = p at hr
  cases hr with
  | l0 => simp at hn; omega
  | l cells h1 h2 h3 h4 =>
   obtain ⟨q1, q2, q3⟩ := h3 _ y hy
   obtain ⟨d, hd⟩ := sh_und q1.1
   rw [e1, q1.2] at h
   refine ⟨_, _, _, h, OpOk.still hs ?_ (.one (by simp) (.at h1 q1 q2 q3 (h4 _ y hy)))⟩
   simp [execOp, ho, hpv, hiv, indexAt_slice hu hd hn.1 hn.2, Sem.run_bind, pure, Sem.run]
 ·rename_i e' e id hu ex
  split at h <;> try (cases h; done)
  rename_i hee
  subst hee
  split at h <;> try (cases h; done)
  rename_i e2 xs hS
  split at h <;> try (cases h; done)
  rename_i hn
  rw [ex] at hx
  have hr := hx.one_inv (by simp) (by simp) (by simp)
  have hb := hs.blk id
  rw [hS] at hb
  generalize hpv : a.eval x = p at hr
  cases hr with
  | w h1 h2 h3 =>
   rw [h1] at hb
   obtain ⟨rfl, rfl, hA⟩ := hb
   obtain ⟨cs, w1, w2, w3, w4, w5⟩ := elem_at hA (j := n.toNat) (by omega)
   obtain ⟨d, hd⟩ := sh_und w1.1
   have hq := R.q (C := C) (w := w) (F := F) (σ := σ) (idx := n.toNat) (path := []) h1 (by omega) rfl
   simp only [poff, Nat.add_zero] at hq
   refine ⟨_, _, _, h, OpOk.still hs ?_ (.one (by simp) hq)⟩
   simp [execOp, ho, hpv, hiv, indexAt_slice hu hd hn.1 hn.2, Sem.run_bind, pure, Sem.run]
  | w0 h1 =>
   rw [h1] at hb
   simp only [BlkAt] at hb
   subst hb
   simp at hn
   omega
 ·rename_i e' e id off len hu ex
  split at h <;> try (cases h; done)
  rename_i hee
  subst hee
  split at h <;> try (cases h; done)
  rename_i e2 xs hS
  split at h <;> try (cases h; done)
  rename_i hn
  rw [ex] at hx
  have hr := hx.one_inv (by simp) (by simp) (by simp)
  have hb := hs.blk id
  rw [hS] at hb
  generalize hpv : a.eval x = p at hr
  cases hr with
  | r h1 h2 h3 h4 =>
   rw [h1] at hb
   obtain ⟨rfl, rfl, hA⟩ := hb
   obtain ⟨cs, w1, w2, w3, w4, w5⟩ := elem_at hA (j := off + n.toNat) (by omega)
   obtain ⟨d, hd⟩ := sh_und w1.1
   have hq := R.q (C := C) (w := w) (F := F) (σ := σ) (idx := off + n.toNat) (path := []) h1 (by omega) rfl
   simp only [poff, Nat.add_zero] at hq
   rw [Nat.add_mul, ← Nat.add_assoc] at hq
   refine ⟨_, _, _, h, OpOk.still hs ?_ (.one (by simp) hq)⟩
   simp [execOp, ho, hpv, hiv, indexAt_slice hu hd hn.1 hn.2, Sem.run_bind, pure, Sem.run]
  | r0 => simp at hn; omega
 ·rename_i m e' id hu ex
  split at h <;> try (cases h; done)
  rename_i e xs hS
  split at h <;> try (cases h; done)
  rename_i hcond
  obtain ⟨rfl, rfl⟩ := hcond
  split at h <;> try (cases h; done)
  rename_i hn
  rw [ex] at hx
  have hr := hx.one_inv (by simp) (by simp) (by simp)
  have hb := hs.blk id
  rw [hS] at hb
  generalize hpv : a.eval x = p at hr
  cases hr with
  | p h1 h2 => rw [h1] at hb; exact hb.elim
  | pa h1 =>
   rw [h1] at hb
   obtain ⟨rfl, rfl, hA⟩ := hb
   obtain ⟨cs, w1, w2, w3, w4, w5⟩ := elem_at hA (j := n.toNat) (by omega)
   obtain ⟨d, hd⟩ := sh_und w1.1
   have hq := R.q (C := C) (w := w) (F := F) (σ := σ) (idx := n.toNat) (path := []) h1 (by omega) rfl
   simp only [poff, Nat.add_zero] at hq
   refine ⟨_, _, _, h, OpOk.still hs ?_ (.one (by simp) hq)⟩
   simp [execOp, ho, hpv, hiv, Instr.indexAt, Sem.run_bind, asIntOf, run_underlying (und_P hu) w, Instr.sureAddr, pure, Sem.run, hn.1, hn.2, run_sizeOf hd, Addr.add_mid]
 ·cases h
theorem ok_index (hl : layB C = true) {T : TypeId} {x ix : Operand} (hs : Sim C F σ S w) (he : EnvR C w F σ env a.tmps) (ho : o.op = .index T x ix) (h : opD C S env slot K o.op = some out) : ∃ v S' ks, K v S' ks = some out ∧ OpOk C o F σ S w a slot v S' ks := by
 rw [ho] at h
 simp only [opD] at h
 have hx := ev_ok he x
 have hi := ev_ok he ix
 split at h <;> try (cases h; done)
 rename_i k n eix
 rw [eix] at hi
 have hiv := hi.i_inv
 split at h
 ·rename_i s hu ex
  split at h <;> try (cases h; done)
  rename_i hn
  rw [ex] at hx
  have hxv := hx.s_inv
  refine ⟨_, _, _, h, OpOk.still hs (val := .int .u8 ((s.data.getD n.toNat 0).toNat : Int)) ?_ (.one (by simp) .i)⟩
  have hj : n.toNat < s.size := by omega
  have hget : s[n.toNat]? = some (s.data.getD n.toNat 0) := by
   rw [getElem?_pos s n.toNat hj]
   congr 1
   show s.data[n.toNat]'hj = _
   rw [Array.getD_eq_getD_getElem?, Array.getElem?_eq_getElem hj]
   rfl
  simp [execOp, ho, hxv, hiv, Instr.index, Sem.run_bind, asIntOf, run_underlying (und_P hu) w, hn.1, hget, pure, Sem.run]
 ·rename_i m e fs hu ex
  split at h
  ·rename_i hue
   split at h <;> try (cases h; done)
   rename_i hc_
   obtain ⟨hsh, hn⟩ := hc_
   rw [ex] at hx
   obtain ⟨cs, hxv, hrc⟩ := hx.g_inv
   have hsT := sh_sound _ _ _ hsh
   cases hsT with
   | g hu' => rw [hu] at hu'; simp at hu'
   | ga hu' hlen hf =>
    rw [hu] at hu'
    cases hu'
    cases hrc with
    | g css n1 n2 =>
     obtain ⟨y, hy⟩ := getElem?_of_lt (l := fs) (j := n.toNat) (by omega)
     obtain ⟨c, hc⟩ := getElem?_of_lt (l := css) (j := n.toNat) (by omega)
     have hsz : ∀ (j : Nat) c, css[j]? = some c → c.length = C.sz e := fun j c hc => by
      have := getElem?_lt hc
      obtain ⟨z, hz⟩ := getElem?_of_lt (l := fs) (j := j) (by omega)
      exact sh_len hl (hf j z hz) (n2 j z c hz hc)
     obtain ⟨k1, k2⟩ := flat_at css (List.replicate m (C.sz e)) (by simp [n1, hlen]) fun j c k hc hk => by
      rw [List.getElem?_replicate] at hk
      split at hk <;> try (cases hk; done)
      obtain rfl := Option.some.inj hk
      exact hsz j c hc
     have hcd := k2 _ c hc
     rw [List.take_replicate, Nat.min_eq_left (by omega), List.sum_replicate_nat, hsz _ c hc] at hcd
     have e1 : fs.getD n.toNat .u = y := by simp [List.getD_eq_getElem?_getD, hy]
     rw [e1] at h
     have hmul : (n.toNat + 1) * C.sz e ≤ m * C.sz e := Nat.mul_le_mul_right _ (by omega)
     rw [Nat.add_mul] at hmul
     obtain ⟨d, hd⟩ := sh_und (hf _ y hy)
     obtain ⟨val, hval, hrun⟩ := part_ok hl (w := w) (cs := css.flatten) (off := n.toNat * C.sz e) (hf _ y hy) (n2 _ y c hy hc) hcd.symm (by rw [k1, List.sum_replicate_nat]; omega)
     refine ⟨_, _, _, h, OpOk.still hs (val := val) ?_ hval⟩
     simp [execOp, ho, hxv, hiv, Instr.index, Sem.run_bind, asIntOf, run_underlying (und_P hu) w, hn.1, hn.2, run_sizeOf hd, hrun, pure, Sem.run]
  split at h <;> try (cases h; done)
  rename_i gs hz
  split at h <;> try (cases h; done)
  rename_i hn
  rw [ex] at hx
  obtain ⟨cs, hxv, hrc⟩ := hx.g_inv
  obtain ⟨f1, f2⟩ := fz_more hl hs hz hrc
  rw [more_nil] at f2
  obtain ⟨g1, g2, cells, g3⟩ := row_of_g hl f1 hu f2
  obtain ⟨y, hy⟩ := getElem?_of_lt (l := gs) (j := n.toNat) (by omega)
  obtain ⟨q1, q2, q3, q4⟩ := g3 _ y hy
  obtain ⟨d, hd⟩ := sh_und q1.1
  have e1 : gs.getD n.toNat .u = y := by simp [List.getD_eq_getElem?_getD, hy]
  rw [e1, q1.2] at h
  have hmul : (n.toNat + 1) * C.sz e ≤ m * C.sz e := Nat.mul_le_mul_right _ (by omega)
  rw [Nat.add_mul] at hmul
  obtain ⟨val, hval, hrun⟩ := part_ok hl (w := w) (cs := cs) (off := n.toNat * C.sz e) q1.1 (noSig_mono q2 σ) q4.symm (by omega)
  refine ⟨_, _, _, h, OpOk.still hs (val := val) ?_ hval⟩
  simp [execOp, ho, hxv, hiv, Instr.index, Sem.run_bind, asIntOf, run_underlying (und_P hu) w, hn.1, hn.2, run_sizeOf hd, hrun, pure, Sem.run]
 ·cases h
theorem isOne_R {w : World} {F : Nat → Prop} {σ : Sig} {x : AV} {v : Value} (h : VR C w F σ x v) (h1 : isOne x = true) : R C w F σ x [v] := by
 refine h.one_inv (fun fs e => ?_) (fun e => ?_) fun vs e => ?_ <;> (subst e; simp [isOne] at h1)
theorem ok_makeFunc {fn : FuncId} {x y : Array Operand} (hs : Sim C F σ S w) (he : EnvR C w F σ env a.tmps) (ho : o.op = .makeFunc (.func fn) x y) (h : opD C S env slot K o.op = some out) : ∃ v S' ks, K v S' ks = some out ∧ OpOk C o F σ S w a slot v S' ks := by
 rw [ho] at h
 simp only [opD] at h
 split at h <;> try (cases h; done)
 rename_i hc
 rw [Bool.and_eq_true, List.all_eq_true, List.all_eq_true] at hc
 have key : ∀ (l : List Operand), (∀ v ∈ l.map (ev env), isOne v = true) → ∀ (j : Nat) b c, (l.map (ev env))[j]? = some b → (l.map a.eval)[j]? = some c → R C w F σ b [c] := fun l hl j b c hb hc => by
  have hm := hl b (List.mem_of_getElem? hb)
  rw [List.getElem?_map] at hb hc
  cases hj : l[j]? with
  | none => rw [hj] at hb; cases hb
  | some q =>
   rw [hj] at hb hc
   simp only [Option.map_some, Option.some.injEq] at hb hc
   subst hb hc
   exact isOne_R (ev_ok he q) hm
 refine ⟨_, _, _, h, OpOk.still hs (val := .func (.func fn) (x.toList.map a.eval).toArray (y.toList.map a.eval).toArray) ?_ (.one (by simp) (.fn _ _ (by simp) (by simp) (key _ hc.1) (key _ hc.2)))⟩
 have ex : ∀ z : Array Operand, (z.toList.map a.eval).toArray = z.map a.eval := fun z => by rw [← Array.toList_map, Array.toArray_toList]
 rw [ex, ex]
 simp [execOp, ho, Instr.makeFunc, Sem.run_bind, pure, Sem.run]
end
section
variable {C : Cfg} {F : Nat → Prop} {σ : Sig} {S : List Blk} {w : World} {env : List AV} {a : Act} {o : Oper} {slot : Nat} {α : Type} {K : KV α} {out : α}
theorem ite_some' {α : Type} {c : Prop} [Decidable c] {x : Option α} {y : α} (h : (if c then x else none) = some y) : c ∧ x = some y := by
 by_cases q : c
 ·rw [if_pos q] at h; exact ⟨q, h⟩
 ·rw [if_neg q] at h; cases h
theorem fields_ok {d d' : Nat} {xs ys : Array Value} (ih : ∀ (T : TypeId) x y r, eqA C d T x y = some r → ∀ vx vy, Sh C T x → Sh C T y → VR C w F σ x vx → VR C w F σ y vy → (Op.equalIn d' T vx vy).run C.P w = .ok r w) : ∀ (fs : List Field) (as cs : List AV) (r : Bool), eqL (eqA C d) fs as cs = some r →
  (∀ (j : Nat) (f : Field) a c, fs[j]? = some f → as[j]? = some a → cs[j]? = some c → Sh C f.type a ∧ Sh C f.type c ∧ ∃ va vc, VR C w F σ a va ∧ VR C w F σ c vc ∧ (part f.type xs f.offset).run C.P w = .ok va w ∧ (part f.type ys f.offset).run C.P w = .ok vc w) → (Op.eqFields d' xs ys fs).run C.P w = .ok r w
 | [], [], [], r, h, _ => by
  simp only [eqL, Option.some.injEq] at h
  subst h
  rfl
 | f :: fs, a :: as, c :: cs, r, h, H => by
  simp only [eqL] at h
  split at h
  ·cases h
  ·rename_i hn
   obtain ⟨h0, e0, h⟩ := Option.bind_eq_some_iff.mp h
   obtain ⟨r0, e1, h⟩ := Option.bind_eq_some_iff.mp h
   simp only [Option.some.injEq] at h
   subst h
   obtain ⟨s1, s2, va, vc, v1, v2, p1, p2⟩ := H 0 f a c rfl rfl rfl
   have hh := ih f.type a c h0 e0 va vc s1 s2 v1 v2
   have hr := fields_ok (xs := xs) (ys := ys) ih fs as cs r0 e1 fun j f' a' c' hf ha hc => H (j + 1) f' a' c' (by simpa using hf) (by simpa using ha) (by simpa using hc)
   simp only [Op.eqFields]
   rw [if_pos hn]
   simp only [Sem.run_bind, p1, p2, hh, Result.andThen_ok]
   cases h0
   ·simp
   ·simpa using hr
 | [], [], _ :: _, r, h, _ => by simp [eqL] at h
 | [], _ :: _, _, r, h, _ => by simp [eqL] at h
 | _ :: _, [], _, r, h, _ => by simp [eqL] at h
 | _ :: _, _ :: _, [], r, h, _ => by simp [eqL] at h
theorem items_ok {d d' c0 : Nat} {e : TypeId} {xs ys : Array Value} (ih : ∀ x y r, eqA C d e x y = some r → ∀ vx vy, Sh C e x → Sh C e y → VR C w F σ x vx → VR C w F σ y vy → (Op.equalIn d' e vx vy).run C.P w = .ok r w) : ∀ (as cs : List AV) (i : Nat) (r : Bool), eqI (eqA C d e) as cs = some r →
  (∀ (j : Nat) a c, as[j]? = some a → cs[j]? = some c → Sh C e a ∧ Sh C e c ∧ ∃ va vc, VR C w F σ a va ∧ VR C w F σ c vc ∧ (part e xs ((i + j) * c0)).run C.P w = .ok va w ∧ (part e ys ((i + j) * c0)).run C.P w = .ok vc w) → (Op.eqItems d' e c0 xs ys (List.range' i as.length)).run C.P w = .ok r w
 | [], [], i, r, h, _ => by
  simp only [eqI, Option.some.injEq] at h
  subst h
  rfl
 | a :: as, c :: cs, i, r, h, H => by
  simp only [eqI] at h
  obtain ⟨h0, e0, h⟩ := Option.bind_eq_some_iff.mp h
  obtain ⟨r0, e1, h⟩ := Option.bind_eq_some_iff.mp h
  simp only [Option.some.injEq] at h
  subst h
  obtain ⟨s1, s2, va, vc, v1, v2, p1, p2⟩ := H 0 a c rfl rfl
  have hh := ih a c h0 e0 va vc s1 s2 v1 v2
  have hr := items_ok (c0 := c0) (xs := xs) (ys := ys) ih as cs (i + 1) r0 e1 fun j a' c' ha hc => by
   have := H (j + 1) a' c' (by simpa using ha) (by simpa using hc)
   rw [show i + (j + 1) = i + 1 + j by omega] at this
   exact this
  rw [List.length_cons, List.range'_succ, Op.eqItems]
  rw [Nat.add_zero] at p1 p2
  simp only [Sem.run_bind, p1, p2, hh, Result.andThen_ok]
  cases h0
  ·simp
  ·simpa using hr
 | [], _ :: _, i, r, h, _ => by simp [eqI] at h
 | _ :: _, [], i, r, h, _ => by simp [eqI] at h
theorem run_equalIn_snil {P : Program} (w : World) (d : Nat) (T : TypeId) (ad : Addr) (n c : Nat) {e : TypeId} (hT : P.underlying T = some (.slice e)) : (Op.equalIn (d + 1) T (.slice (some ad) n c) (.slice none 0 0)).run P w = .ok false w := by
 unfold Op.equalIn
 rw [Sem.run_bind, run_underlying hT w]
 rfl
theorem run_equalIn_znil {P : Program} (w : World) (d : Nat) (T : TypeId) {e : TypeId} (hT : P.underlying T = some (.slice e)) : (Op.equalIn (d + 1) T (.slice none 0 0) (.slice none 0 0)).run P w = .ok true w := by
 unfold Op.equalIn
 rw [Sem.run_bind, run_underlying hT w]
 rfl
theorem eq_ok (hl : layB C = true) : ∀ (d : Nat) (T : TypeId) (x y : AV) (r : Bool), eqA C d T x y = some r → ∀ d', d ≤ d' → ∀ vx vy, Sh C T x → Sh C T y → VR C w F σ x vx → VR C w F σ y vy → (Op.equalIn d' T vx vy).run C.P w = .ok r w
 | 0, T, x, y, r, h => by simp [eqA] at h
 | d + 1, T, x, y, r, h => by
  intro d' hd vx vy hsx hsy hx hy
  obtain ⟨d', rfl⟩ : ∃ k, d' = k + 1 := ⟨d' - 1, by omega⟩
  unfold eqA at h
  split at h
  ·rename_i k k1 a k2 c hu
   simp only [Option.some.injEq] at h
   subst h
   rw [hx.i_inv, hy.i_inv]
   have e1 : k1 = k := by
    cases hsx with
    | i hu' => rw [hu] at hu'; cases hu'; rfl
   have e2 : k2 = k := by
    cases hsy with
    | i hu' => rw [hu] at hu'; cases hu'; rfl
   subst e1 e2
   exact run_equalIn_int w d' T _ _ a c (und_P hu)
  ·rename_i a c hu
   simp only [Option.some.injEq] at h
   subst h
   rw [hx.b_inv, hy.b_inv]
   exact run_equalIn_bool' w d' T a c (und_P hu)
  ·rename_i a c hu
   simp only [Option.some.injEq] at h
   subst h
   rw [hx.s_inv, hy.s_inv]
   exact run_equalIn_string w d' T a c (und_P hu)
  ·rename_i fs as cs hu
   obtain ⟨hst, h⟩ := ite_some' h
   obtain ⟨cx, rfl, hrx⟩ := hx.g_inv
   obtain ⟨cy, rfl, hry⟩ := hy.g_inv
   have hP := und_P hu
   have hfo : C.P.fieldsOf T = fs := by simp [Program.fieldsOf, hP]
   obtain ⟨as', css, e1, e2, PX⟩ := hsx.parts hu hrx
   obtain rfl := AV.g.inj e1
   obtain ⟨cs', cst, e3, e4, PY⟩ := hsy.parts hu hry
   obtain rfl := AV.g.inj e3
   rw [run_equalIn_struct w d' T _ _ (by rw [hfo]; exact hP) hst, hfo]
   refine fields_ok (fun T x y r h vx vy s1 s2 v1 v2 => eq_ok hl d T x y r h d' (by omega) vx vy s1 s2 v1 v2) fs.toList as cs r h fun j f a c hf ha hc => ?_
   rw [Array.getElem?_toList] at hf
   have get : ∀ {zs : List AV} {cz : List Value}, Sh C T (.g zs) → R C w F σ (.g zs) cz → ∀ z, zs[j]? = some z → Sh C f.type z ∧ ∃ v, VR C w F σ z v ∧ (part f.type cz.toArray f.offset).run C.P w = .ok v w := fun {zs cz} hz hrz z hzj => by
    have hp : pty C T [j] = some f.type := by simp only [pty, hu, hf]
    obtain ⟨c', r1, r2, r3, r4⟩ := path_at hl [j] T f.type _ _ hz hrz hp
    have hgp : getPath (AV.g zs) [j] = z := fld_at hzj
    rw [hgp] at r1 r2
    have hof : poff C T [j] = f.offset := by simp only [poff, hu, hf, Nat.add_zero]
    rw [hof] at r3 r4
    obtain ⟨v, q1, q2⟩ := part_ok hl r2 r1 r4 r3
    exact ⟨r2, v, q1, q2⟩
   obtain ⟨s1, va, v1, p1⟩ := get hsx hrx a ha
   obtain ⟨s2, vc, v2, p2⟩ := get hsy hry c hc
   exact ⟨s1, s2, va, vc, v1, v2, p1, p2⟩
  ·rename_i n e as cs hu
   obtain ⟨cx, rfl, hrx⟩ := hx.g_inv
   obtain ⟨cy, rfl, hry⟩ := hy.g_inv
   have hP := und_P hu
   have hshp : ∀ {zs : List AV}, Sh C T (.g zs) → zs.length = n ∧ ∀ (j : Nat) z, zs[j]? = some z → Sh C e z := fun {zs} hz => by
    cases hz with
    | g hu' => rw [hu] at hu'; cases hu'
    | ga hu' h1 h2 => rw [hu] at hu'; cases hu'; exact ⟨h1, h2⟩
   obtain ⟨hn, h⟩ := ite_some' h
   ·obtain ⟨a0, ha0⟩ := getElem?_of_lt (l := as) (j := 0) (by have := (hshp hsx).1; omega)
    obtain ⟨de, hde⟩ := sh_und ((hshp hsx).2 0 a0 ha0)
    have hi := sz_info hde
    cases hq : C.P.info? e with
    | none => rw [hq] at hi; cases hi
    | some inf =>
     rw [run_equalIn_array w d' _ _ hP hq, List.range_eq_range', ← (hshp hsx).1]
     refine items_ok (fun x y r h vx vy s1 s2 v1 v2 => eq_ok hl d e x y r h d' (by omega) vx vy s1 s2 v1 v2) as cs 0 r h fun j a c ha hc => ?_
     have get : ∀ {zs : List AV} {cz : List Value}, Sh C T (.g zs) → R C w F σ (.g zs) cz → ∀ z, zs[j]? = some z → Sh C e z ∧ ∃ v, VR C w F σ z v ∧ (part e cz.toArray ((0 + j) * C.P.cellsOf e)).run C.P w = .ok v w := fun {zs cz} hz hrz z hzj => by
      obtain ⟨hzn, hze⟩ := hshp hz
      cases hrz with
      | g css h1 h2 =>
       have hjl := getElem?_lt hzj
       obtain ⟨c1, hc1⟩ := getElem?_of_lt (l := css) (j := j) (by omega)
       have hlen : ∀ (i : Nat) c, css[i]? = some c → c.length = C.sz e := fun i c hci => by
        obtain ⟨zi, hzi⟩ := getElem?_of_lt (l := zs) (j := i) (by have := getElem?_lt hci; omega)
        exact sh_len hl (hze i zi hzi) (h2 i zi c hzi hci)
       obtain ⟨f1, f2⟩ := flat_at css (List.replicate css.length (C.sz e)) (by simp) fun i c m hci hm => by
        rw [hlen i c hci]
        rw [List.getElem?_replicate] at hm
        split at hm <;> simp_all
       have f3 := f2 j c1 hc1
       have hsum : ((List.replicate css.length (C.sz e)).take j).sum = j * C.sz e := by
        rw [List.take_replicate, List.sum_replicate_nat, Nat.min_eq_left (by omega)]
       rw [hsum, hlen j c1 hc1] at f3
       have htot : css.flatten.length = css.length * C.sz e := by rw [f1, List.sum_replicate_nat]
       have hmul : (j + 1) * C.sz e ≤ css.length * C.sz e := Nat.mul_le_mul_right _ (by omega)
       rw [Nat.add_mul] at hmul
       obtain ⟨v, q1, q2⟩ := part_ok hl (w := w) (cs := css.flatten) (off := j * C.sz e) (hze j z hzj) (h2 j z c1 hzj hc1) f3.symm (by omega)
       refine ⟨hze j z hzj, v, q1, ?_⟩
       rw [Nat.zero_add]
       exact q2
     obtain ⟨s1, va, v1, p1⟩ := get hsx hrx a ha
     obtain ⟨s2, vc, v2, p2⟩ := get hsy hry c hc
     exact ⟨s1, s2, va, vc, v1, v2, p1, p2⟩
  ·cases h
theorem ok_bin (hl : layB C = true) {op : BinOp} {T yT : TypeId} {x y : Operand} (hs : Sim C F σ S w) (he : EnvR C w F σ env a.tmps) (ho : o.op = .binOp op T x y yT) (h : opD C S env slot K o.op = some out) : ∃ v S' ks, K v S' ks = some out ∧ OpOk C o F σ S w a slot v S' ks := by
 rw [ho] at h
 simp only [opD] at h
 have hx := ev_ok he x
 have hy := ev_ok he y
 have run : ∀ val, (binOp op T (a.eval x) (a.eval y)).run C.P w = .ok val w → ((∃ k n, a.eval x = .int k n) ∨ (∃ s, a.eval x = .string s) ∨ (∃ s, a.eval x = .bool s) ∨ (∃ p, a.eval x = .pointer p)) → (execOp a.eval o).run C.P w = .ok (.value val) w := by
  intro val hb hc
  have hg : (eqGuard op T x y (a.eval x) (a.eval y)).run C.P w = .ok () w := by
   unfold eqGuard
   rcases hc with ⟨k, n, hc⟩ | ⟨s, hc⟩ | ⟨s, hc⟩ | ⟨s, hc⟩ <;> rw [hc] <;> (cases op <;> simp [pure, Sem.run])
  simp [execOp, ho, Sem.run_bind, hg, hb, pure, Sem.run]
 have fin : ∀ (v : AV) (val : Value), K v S [] = some out → (∀ fs, v ≠ .g fs) → R C w F σ v [val] → (binOp op T (a.eval x) (a.eval y)).run C.P w = .ok val w → ((∃ k n, a.eval x = .int k n) ∨ (∃ s, a.eval x = .string s) ∨ (∃ s, a.eval x = .bool s) ∨ (∃ p, a.eval x = .pointer p)) → ∃ v S' ks, K v S' ks = some out ∧ OpOk C o F σ S w a slot v S' ks :=
  fun v val hK hn hR hb hc => ⟨v, S, [], hK, OpOk.still hs (run val hb hc) (.one hn hR)⟩
 unfold binD at h
 split at h
 ·rename_i k n k' m ex ey
  rw [ex] at hx
  rw [ey] at hy
  have hx := hx.i_inv
  have hy := hy.i_inv
  have hc : (∃ k n, a.eval x = .int k n) ∨ (∃ s, a.eval x = .string s) ∨ (∃ s, a.eval x = .bool s) ∨ (∃ p, a.eval x = .pointer p) := .inl ⟨_, _, hx⟩
  cases op
  case shl =>
   simp only at h
   split at h
   ·rename_i h0
    exact fin _ _ h (by simp) .i (by rw [hx, hy]; simp [binOp, Op.shift, show ¬ m < 0 by omega, pure, Sem.run]) hc
   ·cases h
  case shr =>
   simp only at h
   split at h
   ·rename_i h0
    exact fin _ _ h (by simp) .i (by rw [hx, hy]; simp [binOp, Op.shift, show ¬ m < 0 by omega, pure, Sem.run]) hc
   ·cases h
  case quo =>
   simp only at h
   split at h
   ·rename_i hk
    subst hk
    split at h
    ·rename_i h0
     exact fin _ _ h (by simp) .i (by rw [hx, hy]; simp [binOp, Op.intDiv, h0, pure, Sem.run]) hc
    ·cases h
   ·cases h
  case rem =>
   simp only at h
   split at h
   ·rename_i hk
    subst hk
    split at h
    ·rename_i h0
     exact fin _ _ h (by simp) .i (by rw [hx, hy]; simp [binOp, Op.intDiv, h0, pure, Sem.run]) hc
    ·cases h
   ·cases h
  all_goals
   simp only [cmpI] at h
   split at h
   ·rename_i hk
    subst hk
    first
     | exact fin _ _ h (by simp) .i (by rw [hx, hy]; simp [binOp, Op.intArith, Op.intBits, pure, Sem.run]) hc
     | exact fin _ _ h (by simp) .b (by rw [hx, hy]; simp [binOp, Op.intCmp, pure, Sem.run]) hc
   ·cases h
 ·rename_i s t ex ey
  rw [ex] at hx
  rw [ey] at hy
  have hx := hx.s_inv
  have hy := hy.s_inv
  have hc : (∃ k n, a.eval x = .int k n) ∨ (∃ s, a.eval x = .string s) ∨ (∃ s, a.eval x = .bool s) ∨ (∃ p, a.eval x = .pointer p) := .inr (.inl ⟨_, hx⟩)
  cases op
  case add =>
   simp only at h
   split at h
   ·rename_i h0
    refine fin _ _ h (by simp) .s ?_ hc
    rw [hx, hy]
    have : ¬ (((s.size + t.size : Nat) : Int) > IntKind.i64.max) := by
     have : IntKind.i64.max = 9223372036854775807 := by decide
     omega
    simp only [binOp, Op.stringOp]
    rw [if_neg this]
    rfl
   ·cases h
  all_goals
   simp only [cmpS] at h
   first
    | (cases h; done)
    | exact fin _ _ h (by simp) .b (by rw [hx, hy]; simp [binOp, Op.stringOp, pure, Sem.run]) hc
 ·rename_i s t ex ey
  rw [ex] at hx
  rw [ey] at hy
  have hx := hx.b_inv
  have hy := hy.b_inv
  have hc : (∃ k n, a.eval x = .int k n) ∨ (∃ s, a.eval x = .string s) ∨ (∃ s, a.eval x = .bool s) ∨ (∃ p, a.eval x = .pointer p) := .inr (.inr (.inl ⟨_, hx⟩))
  split at h
  ·rename_i hu
   refine fin _ _ h (by simp) .b ?_ hc
   rw [hx, hy]
   simp [binOp, Op.equal, Op.maxDepth, Sem.run_bind, run_equalIn_bool' (w := w) 9999 T s t (und_P hu), pure, Sem.run]
  ·rename_i hu
   refine fin _ _ h (by simp) .b ?_ hc
   rw [hx, hy]
   simp [binOp, Op.equal, Op.maxDepth, Sem.run_bind, run_equalIn_bool' (w := w) 9999 T s t (und_P hu), pure, Sem.run]
  ·cases h
 ·rename_i as cs ex ey
  obtain ⟨hck, h⟩ := ite_some' h
  unfold eqck at hck
  simp only [Bool.and_eq_true, Bool.not_eq_true', decide_eq_true_eq] at hck
  obtain ⟨⟨⟨k1, k2⟩, k3⟩, k4⟩ := hck
  rw [ex] at hx
  rw [ey] at hy
  obtain ⟨vx, ex', _⟩ := hx.g_inv
  obtain ⟨vy, ey', _⟩ := hy.g_inv
  have hrun : ∀ r, eqA C C.P.depth T (.g as) (.g cs) = some r → (Op.equal T (a.eval x) (a.eval y)).run C.P w = .ok r w := fun r hr => eq_ok hl _ _ _ _ _ hr _ k4 _ _ (sh_sound _ _ _ k1) (sh_sound _ _ _ k2) hx hy
  have hguard : (eqGuard op T x y (a.eval x) (a.eval y)).run C.P w = .ok () w := by
   rw [ex', ey']
   unfold eqGuard
   cases op <;> simp [Sem.run_bind, k3, pure, Sem.run]
  split at h
  ·rename_i r hr _
   refine ⟨.b r, S, [], h, OpOk.still hs (val := .bool r) ?_ (.one (by simp) .b)⟩
   have := hrun r hr
   rw [ex', ey'] at this hguard
   simp [execOp, ho, Sem.run_bind, ex', ey', hguard, binOp, this, pure, Sem.run]
  ·rename_i r hr _
   refine ⟨.b (!r), S, [], h, OpOk.still hs (val := .bool (!r)) ?_ (.one (by simp) .b)⟩
   have := hrun r hr
   rw [ex', ey'] at this hguard
   simp [execOp, ho, Sem.run_bind, ex', ey', hguard, binOp, this, pure, Sem.run]
  ·cases h
 ·rename_i i pa j pb ex ey
  have hq := ite_some' h
  clear h
  obtain ⟨⟨rfl, rfl⟩, h⟩ := hq
  rw [ex] at hx
  rw [ey] at hy
  have hrx := hx.one_inv (by simp) (by simp) (by simp)
  have hry := hy.one_inv (by simp) (by simp) (by simp)
  obtain ⟨ad, e1, e2⟩ : ∃ ad, a.eval x = .pointer (some ad) ∧ a.eval y = .pointer (some ad) := by
   generalize a.eval x = vx at hrx
   generalize a.eval y = vy at hry
   cases hrx with
   | p h1 h2 =>
    cases hry with
    | p k1 k2 => rw [h1] at k1; cases k1; exact ⟨_, rfl, rfl⟩
    | pa k1 => rw [h1] at k1; cases k1
   | pa h1 =>
    cases hry with
    | p k1 k2 => rw [h1] at k1; cases k1
    | pa k1 => rw [h1] at k1; cases k1; exact ⟨_, rfl, rfl⟩
  have hinf : ∀ {e : TypeId}, (C.und e).isSome = true → ∃ j, C.P.info? e = some j := fun {e} he => by
   obtain ⟨d, hd⟩ := Option.isSome_iff_exists.mp he
   have := sz_info hd
   cases hj : C.P.info? e with
   | none => rw [hj] at this; cases this
   | some j => exact ⟨j, rfl⟩
  split at h
  ·rename_i e hu
   obtain ⟨he', h⟩ := ite_some' h
   obtain ⟨j, hj⟩ := hinf he'
   refine fin _ _ h (by simp) .b ?_ (.inr (.inr (.inr ⟨_, e1⟩)))
   rw [e1, e2]
   exact run_eql_ptr_same w ad (und_P hu) hj
  ·rename_i e hu
   obtain ⟨he', h⟩ := ite_some' h
   obtain ⟨j, hj⟩ := hinf he'
   refine fin _ _ h (by simp) .b ?_ (.inr (.inr (.inr ⟨_, e1⟩)))
   rw [e1, e2]
   exact Lib.run_neq_ptr_same w ad (und_P hu) hj
  ·cases h
 ·rename_i ex ey
  rw [ex] at hx
  rw [ey] at hy
  have hrx := hx.one_inv (by simp) (by simp) (by simp)
  have hry := hy.one_inv (by simp) (by simp) (by simp)
  have e1 : a.eval x = .slice none 0 0 := by
   generalize a.eval x = vx at hrx
   cases hrx; rfl
  have e2 : a.eval y = .slice none 0 0 := by
   generalize a.eval y = vy at hry
   cases hry; rfl
  have hguard : (eqGuard op T x y (a.eval x) (a.eval y)).run C.P w = .ok () w := by
   rw [e1, e2]
   unfold eqGuard
   cases op <;> simp [Sem.run_bind, pure, Sem.run]
  split at h
  ·rename_i e hu
   refine ⟨.b true, S, [], h, OpOk.still hs (val := .bool true) ?_ (.one (by simp) .b)⟩
   rw [e1, e2] at hguard
   simp [execOp, ho, Sem.run_bind, e1, e2, hguard, binOp, Op.equal, Op.maxDepth, run_equalIn_znil w 9999 T (und_P hu), pure, Sem.run]
  ·rename_i e hu
   refine ⟨.b false, S, [], h, OpOk.still hs (val := .bool false) ?_ (.one (by simp) .b)⟩
   rw [e1, e2] at hguard
   simp [execOp, ho, Sem.run_bind, e1, e2, hguard, binOp, Op.equal, Op.maxDepth, run_equalIn_znil w 9999 T (und_P hu), pure, Sem.run]
  ·cases h
 ·rename_i e0 xs0 ex ey
  have hq_ := ite_some' h
  clear h
  obtain ⟨hne, h⟩ := hq_
  obtain ⟨x0, xs1, rfl⟩ : ∃ x0 xs1, xs0 = x0 :: xs1 := by cases xs0 with | nil => simp at hne | cons x0 xs1 => exact ⟨_, _, rfl⟩
  rw [ex] at hx
  rw [ey] at hy
  have hrx := hx.one_inv (by simp) (by simp) (by simp)
  have hry := hy.one_inv (by simp) (by simp) (by simp)
  obtain ⟨ad, n, c, e1⟩ : ∃ ad n c, a.eval x = .slice (some ad) n c := by
   generalize a.eval x = vx at hrx
   cases hrx with
   | l => exact ⟨_, _, _, rfl⟩
  have e2 : a.eval y = .slice none 0 0 := by
   generalize a.eval y = vy at hry
   cases hry; rfl
  have hguard : (eqGuard op T x y (a.eval x) (a.eval y)).run C.P w = .ok () w := by
   rw [e1, e2]
   unfold eqGuard
   cases op <;> simp [Sem.run_bind, pure, Sem.run]
  split at h
  ·rename_i e hu
   refine ⟨.b false, S, [], h, OpOk.still hs (val := .bool false) ?_ (.one (by simp) .b)⟩
   rw [e1, e2] at hguard
   simp [execOp, ho, Sem.run_bind, e1, e2, hguard, binOp, Op.equal, Op.maxDepth, run_equalIn_snil w 9999 T ad n c (und_P hu), pure, Sem.run]
  ·rename_i e hu
   refine ⟨.b true, S, [], h, OpOk.still hs (val := .bool true) ?_ (.one (by simp) .b)⟩
   rw [e1, e2] at hguard
   simp [execOp, ho, Sem.run_bind, e1, e2, hguard, binOp, Op.equal, Op.maxDepth, run_equalIn_snil w 9999 T ad n c (und_P hu), pure, Sem.run]
  ·cases h
 ·rename_i ey
  rw [ey] at hy
  have hy0 : a.eval y = .pointer none := by
   generalize a.eval y = ay at hy
   cases hy with
   | one h1 hr => cases hr; rfl
  have hnil : ∀ {e : TypeId} {h0 : Bool}, C.und T = some (.pointer e) → nilP (ev env x) = some h0 → ∃ p : Option Addr, a.eval x = .pointer p ∧ p.isNone = h0 := fun {e h0} hu hn => by
   generalize ev env x = ax at hx hn
   generalize a.eval x = vx at hx
   cases hx with
   | u => simp [nilP] at hn
   | agg => simp [nilP] at hn
   | t => simp [nilP] at hn
   | one h1 hr =>
    cases ax with
    | p id path => simp [nilP] at hn; subst hn; cases hr <;> exact ⟨_, rfl, rfl⟩
    | q id idx path => simp [nilP] at hn; subst hn; cases hr; exact ⟨_, rfl, rfl⟩
    | «at» T' y => simp [nilP] at hn; subst hn; cases hr; exact ⟨_, rfl, rfl⟩
    | z n =>
     cases n with
     | zero => simp [nilP] at hn; subst hn; cases hr; exact ⟨none, rfl, rfl⟩
     | succ n => simp [nilP] at hn
    | _ => simp [nilP] at hn
  split at h
  ·rename_i e h0 hu hn
   obtain ⟨p, q1, q2⟩ := hnil hu hn
   refine fin _ _ h (by simp) .b ?_ (.inr (.inr (.inr ⟨p, q1⟩)))
   have hP := und_P hu
   rw [q1, hy0, run_eql_pointer_nil w T p (by rw [hP]; simp [Program.pointee, hP]), q2]
  ·rename_i e h0 hu hn
   obtain ⟨p, q1, q2⟩ := hnil hu hn
   refine fin _ _ h (by simp) .b ?_ (.inr (.inr (.inr ⟨p, q1⟩)))
   have hP := und_P hu
   rw [q1, hy0, run_neq_pointer_nil w T p (by rw [hP]; simp [Program.pointee, hP]), q2]
  ·cases h
 ·cases h
end
section
variable {C : Cfg}
theorem zcells_R {w : World} {F : Nat → Prop} {σ : Sig} : ∀ (d : Nat) (x : AV) (cs : List Value), zcells d x = some cs → R C w F σ x cs
 | 0, x, cs, h => by simp [zcells] at h
 | d + 1, x, cs, h => by
  unfold zcells at h
  split at h
  ·obtain rfl := Option.some.inj h; exact .i
  ·obtain rfl := Option.some.inj h; exact .b
  ·obtain rfl := Option.some.inj h; exact .s
  ·obtain rfl := Option.some.inj h; exact .z0
  ·obtain rfl := Option.some.inj h; exact .z1
  ·obtain rfl := Option.some.inj h; exact .z2
  ·obtain rfl := Option.some.inj h; exact .z3
  ·obtain rfl := Option.some.inj h; exact .z4
  ·rename_i fs
   have key : ∀ (fs : List AV) cs, fs.foldr (fun a o => (zcells d a).bind fun c => o.map fun r => c ++ r) (some []) = some cs → ∃ css : List (List Value), css.length = fs.length ∧ cs = css.flatten ∧ ∀ (j : Nat) a c, fs[j]? = some a → css[j]? = some c → R C w F σ a c := by
    intro fs
    induction fs with
    | nil =>
     intro cs h
     simp only [List.foldr_nil, Option.some.injEq] at h
     subst h
     exact ⟨[], rfl, rfl, fun j a c h => by simp at h⟩
    | cons f fs ih =>
     intro cs h
     simp only [List.foldr_cons] at h
     obtain ⟨c, h1, h⟩ := Option.bind_eq_some_iff.mp h
     obtain ⟨r, h2, rfl⟩ := Option.map_eq_some_iff.mp h
     obtain ⟨css, q1, q2, q3⟩ := ih r h2
     refine ⟨c :: css, by simp [q1], by simp [q2], fun j a b ha hb => ?_⟩
     cases j with
     | zero =>
      simp only [List.getElem?_cons_zero, Option.some.injEq] at ha hb
      subst ha hb
      exact zcells_R d _ _ h1
     | succ j =>
      simp only [List.getElem?_cons_succ] at ha hb
      exact q3 j a b ha hb
   obtain ⟨css, q1, rfl, q3⟩ := key fs cs h
   exact .g css q1 q3
  ·cases h
theorem eqV_eq : ∀ a b : Value, eqV a b = true → a = b := by
 intro a b h
 unfold eqV at h
 split at h <;> try (cases h; done)
 all_goals first
  | rfl
  | (simp only [Bool.and_eq_true, beq_iff_eq] at h; obtain ⟨h1, h2⟩ := h; rw [h1, h2])
  | (simp only [beq_iff_eq] at h; rw [h])
  | (simp only [beq_iff_eq] at h; rename_i x y; cases x; cases y; simp only at h; congr 2; exact Array.toList_inj.mp h)
theorem eqVs_eq : ∀ as bs : List Value, eqVs as bs = true → as = bs
 | [], [], _ => rfl
 | a :: as, b :: bs, h => by
  simp only [eqVs, Bool.and_eq_true] at h
  rw [eqV_eq a b h.1, eqVs_eq as bs h.2]
 | [], _ :: _, h => by simp [eqVs] at h
 | _ :: _, [], h => by simp [eqVs] at h
theorem zck_ok {T : TypeId} (h : zck C T = true) : ∃ v, (∀ w, (zeroValue T).run C.P w = .ok v w) ∧ Sh C T (zero C C.P.depth T) ∧ ∀ w F σ, VR C w F σ (zero C C.P.depth T) v := by
 unfold zck at h
 split at h <;> try (cases h; done)
 rename_i v cs h1 h2
 simp only [Bool.and_eq_true] at h
 obtain ⟨⟨h3, h4⟩, h5⟩ := h
 have e := eqVs_eq _ _ h3
 refine ⟨v, fun w => ?_, sh_of h5, fun w F σ => ?_⟩
 ·obtain ⟨i, hi, hz⟩ := Option.bind_eq_some_iff.mp h1
  simp [zeroValue, typeInfo, hi, hz, Sem.run_bind, pure, Sem.run]
 ·have hr := zcells_R (C := C) (w := w) (F := F) (σ := σ) _ _ _ h2
  rw [e] at hr
  cases hz : zero C C.P.depth T <;> rw [hz] at hr h4
  case g fs =>
   cases v <;> simp only at h4 <;> try (cases h4; done)
   exact .agg hr
  all_goals
   cases v <;> simp only at h4 <;> try (cases h4; done)
   all_goals exact .one (by simp) hr
theorem newVar_run {T : TypeId} {v : Value} {w : World} : (newVar T v).run C.P w = .ok ⟨w.heap.size, 0, none⟩ (w.alloc (.cells v.cells T)) := rfl
theorem alloc_heap (w : World) (ob : Obj) : (w.alloc ob).heap[w.heap.size]? = some ob := by
 show (w.heap.push ob)[w.heap.size]? = _
 simp
theorem alloc_keep (w : World) (ob : Obj) {b : Nat} (h : b < w.heap.size) : (w.alloc ob).heap[b]? = w.heap[b]? := by
 show (w.heap.push ob)[b]? = _
 rw [Array.getElem?_push, if_neg (by omega)]
structure Slot (σ : Sig) (S : List Blk) (slot : Nat) : Prop where
 lt : slot < S.length
 dead : S.getD slot .dead = .dead
 no : σ slot = .no
variable {F : Nat → Prop} {σ : Sig} {S : List Blk} {w : World} {env : List AV} {a : Act} {o : Oper} {slot : Nat} {α : Type} {K : KV α} {out : α}
theorem slot_rest {σ : Sig} {S : List Blk} {slot n : Nat} {B : Blk} {p : Place} (hn : 1 ≤ n) : ∀ j, (j < slot ∨ slot + n ≤ j) → S.getD j .dead = .dead → σ j = .no → (S.set slot B).getD j .dead = .dead ∧ σ.put slot p j = .no := fun j hj h1 h2 => by
 rw [getD_set_ne (by omega), put_ne (by omega)]
 exact ⟨h1, h2⟩
theorem ok_new (hs : Sim C F σ S w) (hsl : Slot σ S slot) (hn : slotsOf o.op = 1) {T : TypeId} {x : AV} {v : Value} (hsh : Sh C T x) (hv : VR C w F σ x v) (hrun : (execOp a.eval o).run C.P w = .ok (.value (.pointer (some ⟨w.heap.size, 0, none⟩))) (w.alloc (.cells v.cells T))) :
  OpOk C o F σ S w a slot (.p slot []) (S.set slot (.obj T x)) [] := by
 have hr := hv.cells hsh
 have hF : ∀ b, F b → (w.alloc (.cells v.cells T)).heap[b]? = w.heap[b]? := fun b hb => alloc_keep w _ (hs.fin b hb)
 obtain ⟨m1, m2⟩ := hs.alloc hsl.lt hsl.dead hsl.no (.cells v.cells T) (.obj T x) (.obj w.heap.size T) rfl ⟨rfl, hsh, v.cells, (), alloc_heap w _, hr.mono hF (fun _ h => h) _ (put_ext hsl.no)⟩
 refine ⟨_, _, F, _, .inl hrun, m1, m2, put_ext hsl.no, fun id h => by simp at h, .one (by simp) ?_, List.length_set .., by rw [hn]; exact slot_rest (Nat.le_refl 1)⟩
 have := R.p (C := C) (w := w.alloc (.cells v.cells T)) (F := F) (σ := σ.put slot (.obj w.heap.size T)) (id := slot) (path := []) put_self rfl
 simpa [poff] using this
theorem ok_newArr (hl : layB C = true) (hs : Sim C F σ S w) (hsl : Slot σ S slot) (hn : slotsOf o.op = 1) {T n e : TypeId} {ys : List AV} {cs : List Value} (hw : Wt C T (.g ys)) (hu : C.und T = some (.array n e)) (hu8 : ¬ isU8 C e = true) (hr : R C w F noSig (.g ys) cs) (hrun : (execOp a.eval o).run C.P w = .ok (.value (.pointer (some ⟨w.heap.size, 0, none⟩))) (w.alloc (.cells cs.toArray T))) :
  OpOk C o F σ S w a slot (.p slot []) (S.set slot (.arr e ys)) [] := by
 have hF : ∀ b, F b → (w.alloc (.cells cs.toArray T)).heap[b]? = w.heap[b]? := fun b hb => alloc_keep w _ (hs.fin b hb)
 obtain ⟨g1, g2, cells, g3⟩ := row_of_g hl hw hu hr
 have hrow : (w.alloc (.cells cs.toArray T)).rangeAt w.heap.size 0 cs := by
  have := rangeAt_row (alloc_heap w (.cells cs.toArray T))
  simpa using this
 obtain ⟨m1, m2⟩ := hs.alloc hsl.lt hsl.dead hsl.no (.cells cs.toArray T) (.arr e ys) (.arr w.heap.size 0 ys.length n e) rfl ⟨rfl, rfl, by omega, cs.toArray, ⟨T, fun h => absurd h hu8⟩, alloc_heap w _, by simp [g2], cells, fun j y hy => by
  obtain ⟨q1, q2, q3, q4⟩ := g3 j y hy
  exact ⟨q1, q2.mono hF (fun _ h => h) noSig (fun _ _ => rfl), q3, rangeAt_part hrow q4⟩⟩
 refine ⟨_, _, F, _, .inl hrun, m1, m2, put_ext hsl.no, fun id h => by simp at h, .one (by simp) (.pa put_self), List.length_set .., by rw [hn]; exact slot_rest (Nat.le_refl 1)⟩
theorem ok_alloc (hl : layB C = true) {T : TypeId} (hs : Sim C F σ S w) (hsl : Slot σ S slot) (ho : o.op = .alloc T) (h : opD C S env slot K o.op = some out) : ∃ v S' ks, K v S' ks = some out ∧ OpOk C o F σ S w a slot v S' ks := by
 have hn : slotsOf o.op = 1 := by rw [ho]; rfl
 rw [ho] at h
 simp only [opD] at h
 split at h <;> try (cases h; done)
 rename_i hz
 obtain ⟨v, hv1, hv2, hv3⟩ := zck_ok hz
 have hrun : (execOp a.eval o).run C.P w = .ok (.value (.pointer (some ⟨w.heap.size, 0, none⟩))) (w.alloc (.cells v.cells T)) := by
  simp [execOp, ho, Instr.alloc, Sem.run_bind, hv1, newVar_run, pure, Sem.run]
 split at h
 ·rename_i n e hu
  split at h <;> try (cases h; done)
  rename_i xs hf
  obtain ⟨hu8, hf⟩ := ite_no hf
  obtain ⟨f1, f2⟩ := fz_more hl hs hf ((hv3 w F σ).cells hv2)
  rw [more_nil] at f2
  exact ⟨_, _, _, h, ok_newArr hl hs hsl hn f1 hu hu8 f2 (by simpa using hrun)⟩
 ·exact ⟨_, _, _, h, ok_new hs hsl hn hv2 (hv3 w F σ) hrun⟩
theorem ok_box (hl : layB C = true) {T : TypeId} {x : Operand} (hs : Sim C F σ S w) (he : EnvR C w F σ env a.tmps) (hsl : Slot σ S slot) (ho : o.op = .box T x) (h : opD C S env slot K o.op = some out) : ∃ v S' ks, K v S' ks = some out ∧ OpOk C o F σ S w a slot v S' ks := by
 have hn : slotsOf o.op = 1 := by rw [ho]; rfl
 rw [ho] at h
 simp only [opD] at h
 have hx := ev_ok he x
 have hrun : (execOp a.eval o).run C.P w = .ok (.value (.pointer (some ⟨w.heap.size, 0, none⟩))) (w.alloc (.cells (a.eval x).cells T)) := by
  simp [execOp, ho, Instr.box, Sem.run_bind, newVar_run, pure, Sem.run]
 split at h
 ·rename_i n e hu
  split at h <;> try (cases h; done)
  rename_i xs hf
  obtain ⟨hu8, hf⟩ := ite_no hf
  have hsx : ∃ zs, ev env x = .g zs := by
   cases hd : C.P.depth with
   | zero => rw [hd] at hf; simp [fz] at hf
   | succ d =>
    rw [hd] at hf
    unfold fz at hf
    rw [hu] at hf
    split at hf <;> try (simp at hf; done)
    all_goals first
     | exact ⟨_, by assumption⟩
     | (rename_i hx _; simp at hx)
     | (cases hf; done)
     | skip
  obtain ⟨zs, hzs⟩ := hsx
  rw [hzs] at hf hx
  obtain ⟨cs, hxv, hrc⟩ := hx.g_inv
  obtain ⟨f1, f2⟩ := fz_more hl hs hf hrc
  rw [more_nil] at f2
  exact ⟨_, _, _, h, ok_newArr hl hs hsl hn f1 hu hu8 f2 (by rw [hrun, hxv]; rfl)⟩
 ·split at h <;> try (cases h; done)
  rename_i hsh
  exact ⟨_, _, _, h, ok_new hs hsl hn (sh_of hsh) hx hrun⟩
end
section
variable {C : Cfg}
variable {F : Nat → Prop} {σ : Sig} {S : List Blk} {w : World} {env : List AV} {a : Act} {o : Oper} {slot : Nat} {α : Type} {K : KV α} {out : α}
theorem call_builtin {b : Builtin} {args : Array Operand} {argTypes : Array TypeId} (ho : o.op = .call { callee := .builtin b, args, argTypes }) : execOp a.eval o = builtin b argTypes o.type (args.map fun | .const _ => true | _ => false) (args.map a.eval) := by
 unfold execOp
 rw [ho]
 rfl
theorem arr_one {α : Type} {l : Array α} {x : α} (h : l.toList = [x]) : l = #[x] := by
 rw [← Array.toArray_toList (xs := l), h]
theorem elems_len (hs : Sim C F σ S w) {x : AV} {xs : List AV} {v : Value} (he : elems S x = some xs) (hr : R C w F σ x [v]) : ∃ ad cap, v = .slice ad xs.length cap ∧ xs.length ≤ cap := by
 cases x <;> simp only [elems] at he <;> try (cases he; done)
 case l e ys =>
  obtain rfl := Option.some.inj he
  cases hr with
  | l0 => exact ⟨_, _, rfl, Nat.zero_le _⟩
  | l cells h1 h2 h3 h4 => exact ⟨_, _, rfl, h2⟩
 case z n =>
  match n, he, hr with
  | 0, he, _ => simp at he
  | 1, he, hr =>
   simp only [Option.some.injEq] at he
   subst he
   cases hr
   exact ⟨_, _, rfl, Nat.zero_le _⟩
  | 8, he, hr =>
   simp only [Option.some.injEq] at he
   subst he
   cases hr
   exact ⟨_, _, rfl, Nat.zero_le _⟩
  | 2, he, _ | 3, he, _ | 4, he, _ | 5, he, _ | 6, he, _ | 7, he, _ => simp at he
  | n + 9, he, _ => simp at he
 case w e id =>
  have hb := hs.blk id
  cases hS : S.getD id .dead <;> rw [hS] at he hb <;> simp only at he <;> try (cases he; done)
  rename_i e2 ys
  obtain rfl := Option.some.inj he
  cases hr with
  | w h1 h2 h3 =>
   rw [h1] at hb
   obtain ⟨rfl, rfl, hA⟩ := hb
   exact ⟨_, _, rfl, h2⟩
  | w0 h1 =>
   rw [h1] at hb
   simp only [BlkAt] at hb
   subst hb
   exact ⟨_, _, rfl, Nat.zero_le _⟩
 case r e id off len =>
  have hb := hs.blk id
  cases hS : S.getD id .dead <;> rw [hS] at he hb <;> simp only at he <;> try (cases he; done)
  rename_i e2 ys
  obtain rfl := Option.some.inj he
  cases hr with
  | r h1 h2 h3 h4 =>
   rw [h1] at hb
   obtain ⟨rfl, rfl, hA⟩ := hb
   have : ((ys.drop off).take len).length = len := by simp; omega
   rw [this]
   exact ⟨_, _, rfl, h3⟩
  | r0 => exact ⟨_, 0, by simp; rfl, by simp⟩
theorem ok_len {args : Array Operand} {argTypes : Array TypeId} (hs : Sim C F σ S w) (he : EnvR C w F σ env a.tmps) (ho : o.op = .call { callee := .builtin .len, args, argTypes }) (h : opD C S env slot K o.op = some out) : ∃ v S' ks, K v S' ks = some out ∧ OpOk C o F σ S w a slot v S' ks := by
 rw [ho] at h
 simp only [opD] at h
 have ht : ∀ d, C.und ((argTypes[0]?).getD C.P.types.size) = some d → ∃ T, argTypes[0]? = some T ∧ C.und T = some d := fun d hd => by
  cases hq : argTypes[0]? with
  | none =>
   rw [hq] at hd
   have := und_lt hd
   simp at this
  | some T => rw [hq] at hd; exact ⟨T, rfl, hd⟩
 have run : ∀ (x : Operand) (T : TypeId) (d : TypeDesc) (n : Nat), args.toList = [x] → argTypes[0]? = some T → C.und T = some d → (Builtin.len_ argTypes o.type #[a.eval x]).run C.P w = .ok (goInt n) w → (execOp a.eval o).run C.P w = .ok (.value (.int .i64 (n : Int))) w := fun x T d n hx hT hd hl => by
  rw [call_builtin ho, arr_one hx]
  simp only [builtin, List.map_toArray, List.map_cons, List.map_nil]
  rw [Sem.run_bind]
  erw [hl]
  rfl
 split at h
 ·rename_i x hu hx
  obtain ⟨T, hT, hd⟩ := ht _ hu
  split at h <;> try (cases h; done)
  rename_i s ex
  have hv := ev_ok he x
  rw [ex] at hv
  refine ⟨_, _, _, h, OpOk.still hs (run x T _ s.size hx hT hd ?_) (.one (by simp) .i)⟩
  simp [Builtin.len_, hT, hv.s_inv, Sem.run_bind, run_underlying (und_P hd) w, pure, Sem.run]
 ·rename_i e x hu hx
  obtain ⟨T, hT, hd⟩ := ht _ hu
  have hv := ev_ok he x
  split at h
  ·rename_i e2 id off len ex
   rw [ex] at hv
   have hr := hv.one_inv (by simp) (by simp) (by simp)
   generalize hpv : a.eval x = p at hr run
   have : ∃ ad cap, p = .slice ad len cap := by cases hr <;> exact ⟨_, _, rfl⟩
   obtain ⟨ad, cap, rfl⟩ := this
   refine ⟨_, _, _, h, OpOk.still hs (run x T _ len hx hT hd ?_) (.one (by simp) .i)⟩
   rw [hpv]
   simp [Builtin.len_, hT, Sem.run_bind, run_underlying (und_P hd) w, pure, Sem.run]
  ·split at h <;> try (cases h; done)
   rename_i xs hel
   have hr := hv.one_inv (fun fs e => by rw [e] at hel; simp [elems] at hel) (fun e => by rw [e] at hel; simp [elems] at hel) (fun vs e => by rw [e] at hel; simp [elems] at hel)
   obtain ⟨ad, cap, hpv, _⟩ := elems_len hs hel hr
   refine ⟨_, _, _, h, OpOk.still hs (run x T _ xs.length hx hT hd ?_) (.one (by simp) .i)⟩
   rw [hpv]
   simp [Builtin.len_, hT, Sem.run_bind, run_underlying (und_P hd) w, pure, Sem.run]
 ·rename_i n e x hu hx
  obtain ⟨T, hT, hd⟩ := ht _ hu
  refine ⟨_, _, _, h, OpOk.still hs (run x T _ n hx hT hd ?_) (.one (by simp) .i)⟩
  simp [Builtin.len_, hT, Sem.run_bind, run_underlying (und_P hd) w, pure, Sem.run]
 ·cases h
theorem cut_ok {isSlice : Bool} {len cap : Nat} {lo hi : Option Operand} {KK : Nat → Nat → Option α} (he : EnvR C w F σ env a.tmps) (hlc : len ≤ cap) (h : cut3 len (lo.map (ev env)) (hi.map (ev env)) KK = some out) : ∃ l h', KK l h' = some out ∧ l ≤ h' ∧ h' ≤ len ∧ (Instr.sliceBounds isSlice len cap (lo.map a.eval) (hi.map a.eval) none).run C.P w = .ok (l, h', cap) w := by
 have hb : ∀ (x : Operand) k (n : Int), ev env x = .i k n → a.eval x = .int k n := fun x k n hx => by
  have := ev_ok he x
  rw [hx] at this
  exact this.i_inv
 have bnd : ∀ (x : Operand) k (n : Int) (y : Nat) code, ev env x = .i k n → 0 ≤ n → n ≤ (y : Int) → (Instr.sliceBound (a.eval x) y code).run C.P w = .ok n.toNat w := fun x k n y code hx h0 h1 => by
  rw [hb x k n hx]
  simp [Instr.sliceBound, asIntOf, Sem.run_bind, pure, Sem.run, h0, h1]
 unfold cut3 at h
 cases lo with
 | none =>
  cases hi with
  | none => exact ⟨0, len, h, Nat.zero_le _, Nat.le_refl _, by simp [Instr.sliceBounds, Sem.run_bind, pure, Sem.run]⟩
  | some x =>
   simp only [Option.map_none, Option.map_some] at h ⊢
   cases hx : ev env x <;> rw [hx] at h <;> (try simp only at h) <;> try (cases h; done)
   rename_i k n
   split at h <;> try (cases h; done)
   rename_i hn
   refine ⟨0, n.toNat, h, Nat.zero_le _, by omega, ?_⟩
   simp [Instr.sliceBounds, Sem.run_bind, pure, Sem.run, bnd x k n cap _ hx hn.1 (by omega)]
 | some y =>
  cases hi with
  | none =>
   simp only [Option.map_none, Option.map_some] at h ⊢
   cases hy : ev env y <;> rw [hy] at h <;> (try simp only at h) <;> try (cases h; done)
   rename_i k n
   split at h <;> try (cases h; done)
   rename_i hn
   refine ⟨n.toNat, len, h, by omega, Nat.le_refl _, ?_⟩
   simp [Instr.sliceBounds, Sem.run_bind, pure, Sem.run, bnd y k n len _ hy hn.1 hn.2]
  | some x =>
   simp only [Option.map_some] at h ⊢
   cases hy : ev env y <;> rw [hy] at h <;> (try simp only at h) <;> try (cases h; done)
   rename_i k n
   cases hx : ev env x <;> rw [hx] at h <;> (try simp only at h) <;> try (cases h; done)
   rename_i k' m
   split at h <;> try (cases h; done)
   rename_i hm
   split at h <;> try (cases h; done)
   rename_i hn
   refine ⟨n.toNat, m.toNat, h, by omega, by omega, ?_⟩
   simp [Instr.sliceBounds, Sem.run_bind, pure, Sem.run, bnd x k' m cap _ hx hm.1 (by omega), bnd y k n m.toNat _ hy hn.1 (by omega)]
theorem R.cut {w : World} {F : Nat → Prop} {σ : Sig} {e : TypeId} {xs : List AV} {ad : Option Addr} {cap : Nat} (h : R C w F σ (.l e xs) [.slice ad xs.length cap]) {l h' : Nat} (h1 : l ≤ h') (h2 : h' ≤ xs.length) : R C w F σ (.l e ((xs.take h').drop l)) [.slice (if cap = l then ad else ad.map (·.add (l * C.sz e))) (h' - l) (cap - l)] := by
 by_cases q : l = h'
 ·subst q
  rw [List.drop_take, Nat.sub_self, List.take_zero]
  exact .l0
 ·cases h with
  | l0 => simp at h2; omega
  | l cells g1 g2 g3 g4 =>
   rename_i b o
   have hget : ∀ (j : Nat) v, ((xs.take h').drop l)[j]? = some v → xs[l + j]? = some v := fun j v hv => by
    rw [List.getElem?_drop, List.getElem?_take] at hv
    split at hv
    ·exact hv
    ·cases hv
   have hlen : ((xs.take h').drop l).length = h' - l := by simp; omega
   rw [if_neg (by omega)]
   have := R.l (C := C) (w := w) (F := F) (σ := σ) (e := e) (xs := (xs.take h').drop l) (b := b) (o := o + l * C.sz e) (cap := cap - l) (fun j => cells (l + j)) g1 (by omega) (fun j v hv => by
    obtain ⟨q1, q2, q3⟩ := g3 _ v (hget j v hv)
    refine ⟨q1, ?_, q3⟩
    rw [show o + l * C.sz e + j * C.sz e = o + (l + j) * C.sz e by rw [Nat.add_mul]; omega]
    exact q2) (fun j v hv => g4 _ v (hget j v hv))
   rw [hlen] at this
   simpa [Addr.add_mid] using this
theorem R.w_inv {w : World} {F : Nat → Prop} {σ : Sig} {e id : Nat} {v : Value} (h : R C w F σ (.w e id) [v]) : (∃ b o n c cap, σ id = .arr b o n c e ∧ n ≤ cap ∧ cap ≤ c ∧ v = .slice (some ⟨b, o, none⟩) n cap) ∨ (σ id = .nil ∧ ∃ ad, (isU8 C e = true → ad = none) ∧ v = .slice ad 0 0) := by
 cases h with
 | w h1 h2 h3 => exact .inl ⟨_, _, _, _, _, h1, h2, h3, rfl⟩
 | w0 h1 h2 => exact .inr ⟨h1, _, h2, rfl⟩
theorem ok_slice {T : TypeId} {x : Operand} {lo hi mx : Option Operand} (hl : layB C = true) (hs : Sim C F σ S w) (he : EnvR C w F σ env a.tmps) (ho : o.op = .slice T x lo hi mx) (h : opD C S env slot K o.op = some out) : ∃ v S' ks, K v S' ks = some out ∧ OpOk C o F σ S w a slot v S' ks := by
 rw [ho] at h
 cases mx with
 | none =>
  simp only [opD] at h
  have hx := ev_ok he x
  have fin : ∀ (v : AV) (val : Value), K v S [] = some out → (∀ fs, v ≠ .g fs) → R C w F σ v [val] → (Instr.sliceAt T (a.eval x) (lo.map a.eval) (hi.map a.eval) none).run C.P w = .ok val w → ∃ v S' ks, K v S' ks = some out ∧ OpOk C o F σ S w a slot v S' ks :=
   fun v val hK hn hR hrun => ⟨v, S, [], hK, OpOk.still hs (by simp [execOp, ho, hrun, Sem.run_bind, pure, Sem.run]) (.one hn hR)⟩
  split at h
  ·rename_i s hu ex
   rw [ex] at hx
   obtain ⟨l, h', hK, h1, h2, hb⟩ := cut_ok (isSlice := false) he (Nat.le_refl _) h
   refine fin _ _ hK (by simp) .s ?_
   rw [hx.s_inv]
   simp [Instr.sliceAt, Sem.run_bind, run_underlying (und_P hu) w, Instr.slice, hb, pure, Sem.run]
  ·rename_i e' e xs hu ex
   split at h <;> try (cases h; done)
   rename_i hee
   obtain ⟨rfl, hde⟩ := hee
   obtain ⟨d, hd⟩ := Option.isSome_iff_exists.mp hde
   rw [ex] at hx
   have hr := hx.one_inv (by simp) (by simp) (by simp)
   obtain ⟨ad, cap, hpv, hlc⟩ := elems_len hs (x := .l e' xs) rfl hr
   obtain ⟨l, h', hK, h1, h2, hb⟩ := cut_ok (isSlice := true) he hlc h
   rw [hpv] at hr
   refine fin _ _ hK (by simp) (R.cut hr h1 h2) ?_
   rw [hpv]
   simp [Instr.sliceAt, Sem.run_bind, run_underlying (und_P hu) w, Instr.slice, hb, run_sizeOf hd, pure, Sem.run]
  ·rename_i e' hu ex
   split at h <;> try (cases h; done)
   rename_i hde
   obtain ⟨d, hd⟩ := Option.isSome_iff_exists.mp hde
   rw [ex] at hx
   have hr := hx.one_inv (by simp) (by simp) (by simp)
   obtain ⟨l, h', hK, h1, h2, hb⟩ := cut_ok (isSlice := true) (cap := 0) he (Nat.le_refl _) h
   obtain rfl : l = 0 := by omega
   obtain rfl : h' = 0 := by omega
   generalize hpv : a.eval x = p at hr
   cases hr with
   | z1 =>
    refine fin _ (.slice none 0 0) hK (by simp) .z1 ?_
    rw [hpv]
    simp [Instr.sliceAt, Sem.run_bind, run_underlying (und_P hu) w, Instr.slice, hb, run_sizeOf hd, pure, Sem.run]
  ·rename_i e' e id hu ex
   split at h <;> try (cases h; done)
   rename_i hee
   obtain ⟨rfl, hde⟩ := hee
   obtain ⟨d, hd⟩ := Option.isSome_iff_exists.mp hde
   split at h <;> try (cases h; done)
   rename_i e2 xs hS
   rw [ex] at hx
   have hr := hx.one_inv (by simp) (by simp) (by simp)
   obtain ⟨ad, cap, hpv, hlc⟩ := elems_len hs (x := .w e' id) (xs := xs) (by simp only [elems, hS]) hr
   obtain ⟨l, h', hK, h1, h2, hb⟩ := cut_ok (isSlice := true) he hlc h
   have hrun : (Instr.sliceAt T (a.eval x) (lo.map a.eval) (hi.map a.eval) none).run C.P w = .ok (.slice (if cap = l then ad else ad.map (·.add (l * C.sz e'))) (h' - l) (cap - l)) w := by
    rw [hpv]
    simp [Instr.sliceAt, Sem.run_bind, run_underlying (und_P hu) w, Instr.slice, hb, run_sizeOf hd, pure, Sem.run]
   have hB := hs.blk id
   rw [hS] at hB
   rcases hr.w_inv with ⟨b, o1, n, c, cap', g1, g2, g3, g4⟩ | ⟨g1, ad', _, g4⟩
   ·rw [g1] at hB
    obtain ⟨rfl, hn, hA⟩ := hB
    rw [hpv] at g4
    simp only [Value.slice.injEq] at g4
    obtain ⟨rfl, _, rfl⟩ := g4
    by_cases q2 : cap = l
    ·subst q2
     rw [if_pos rfl, Nat.sub_self] at hrun
     rw [show h' - cap = 0 by omega] at hrun hK
     exact fin _ _ hK (by simp) .r0 hrun
    ·rw [if_neg q2] at hrun
     simp only [Option.map_some, Addr.add_mid] at hrun
     exact fin _ _ hK (by simp) (.r g1 (by omega) (by omega) (by omega)) hrun
   ·rw [g1] at hB
    simp only [BlkAt] at hB
    subst hB
    rw [hpv] at g4
    simp only [Value.slice.injEq] at g4
    obtain ⟨rfl, _, rfl⟩ := g4
    obtain rfl : h' = 0 := by simpa using h2
    obtain rfl : l = 0 := by omega
    exact fin _ _ hK (by simp) .r0 hrun
  ·rename_i e' e id off len hu ex
   split at h <;> try (cases h; done)
   rename_i hee
   obtain ⟨rfl, hde⟩ := hee
   obtain ⟨d, hd⟩ := Option.isSome_iff_exists.mp hde
   split at h <;> try (cases h; done)
   rename_i e2 xs hS
   rw [ex] at hx
   have hr := hx.one_inv (by simp) (by simp) (by simp)
   generalize hpv : a.eval x = p at hr fin
   cases hr with
   | r g1 g2 g3 g4 =>
    rename_i b o1 n c cap
    obtain ⟨l, h', hK, h1, h2, hb⟩ := cut_ok (isSlice := true) he g3 h
    have hrun : (Instr.sliceAt T (.slice (some ⟨b, o1 + off * C.sz e', none⟩) len cap) (lo.map a.eval) (hi.map a.eval) none).run C.P w = .ok (.slice (if cap = l then some ⟨b, o1 + off * C.sz e', none⟩ else some ⟨b, o1 + off * C.sz e' + l * C.sz e', none⟩) (h' - l) (cap - l)) w := by
     simp [Instr.sliceAt, Sem.run_bind, run_underlying (und_P hu) w, Instr.slice, hb, run_sizeOf hd, Addr.add_mid, pure, Sem.run]
    by_cases q2 : cap = l
    ·subst q2
     rw [if_pos rfl, Nat.sub_self] at hrun
     rw [show h' - cap = 0 by omega] at hrun hK
     exact fin _ _ hK (by simp) .r0 hrun
    ·rw [if_neg q2] at hrun
     have := R.r (C := C) (w := w) (F := F) (σ := σ) (off := off + l) (len := h' - l) (cap := cap - l) g1 (by omega) (by omega) (by omega)
     rw [Nat.add_mul, ← Nat.add_assoc] at this
     exact fin _ _ hK (by simp) this hrun
   | r0 =>
    rename_i ad
    obtain ⟨l, h', hK, h1, h2, hb⟩ := cut_ok (isSlice := true) (cap := 0) he (Nat.le_refl _) h
    obtain rfl : l = 0 := by omega
    obtain rfl : h' = 0 := by omega
    refine fin _ _ hK (by simp) (.r0 (ad := ad)) ?_
    simp [Instr.sliceAt, Sem.run_bind, run_underlying (und_P hu) w, Instr.slice, hb, run_sizeOf hd, pure, Sem.run]
  ·rename_i n e' id hu ex
   split at h <;> try (cases h; done)
   rename_i e xs hS
   split at h <;> try (cases h; done)
   rename_i hee
   obtain ⟨rfl, rfl, hde⟩ := hee
   obtain ⟨d, hd⟩ := Option.isSome_iff_exists.mp hde
   rw [ex] at hx
   have hr := hx.one_inv (by simp) (by simp) (by simp)
   have hB := hs.blk id
   rw [hS] at hB
   generalize hpv : a.eval x = p at hr fin
   cases hr with
   | p g1 g2 => rw [g1] at hB; exact hB.elim
   | pa g1 =>
    rename_i b o1 n c e1
    rw [g1] at hB
    obtain ⟨he1, rfl, hA⟩ := hB
    subst he1
    have hc := hA.1
    obtain ⟨l, h', hK, h1, h2, hb⟩ := cut_ok (isSlice := false) he (Nat.le_refl _) h
    have hrun : (Instr.sliceAt T (.pointer (some ⟨b, o1, none⟩)) (lo.map a.eval) (hi.map a.eval) none).run C.P w = .ok (.slice (some (if xs.length = l then ⟨b, o1, none⟩ else ⟨b, o1 + l * C.sz e1, none⟩)) (h' - l) (xs.length - l)) w := by
     simp [Instr.sliceAt, Sem.run_bind, run_underlying (und_P hu) w, Instr.sureAddr, hb, run_sizeOf hd, Addr.add_mid, pure, Sem.run]
    by_cases q2 : xs.length = l
    ·subst q2
     rw [if_pos rfl, Nat.sub_self] at hrun
     rw [show h' - xs.length = 0 by omega] at hrun hK
     exact fin _ _ hK (by simp) .r0 hrun
    ·rw [if_neg q2] at hrun
     exact fin _ _ hK (by simp) (.r g1 (by omega) (by omega) (by omega)) hrun
  ·cases h
 | some m =>
  cases lo with
  | some l => cases hi <;> simp [opD] at h
  | none =>
   cases hi with
   | none => simp [opD] at h
   | some y =>
    simp only [opD] at h
    have hx := ev_ok he x
    split at h <;> try (cases h; done)
    rename_i e' k1 n1 k2 n2 hu ey em
    split at h <;> try (cases h; done)
    rename_i hc
    obtain ⟨rfl, rfl, hel, hde⟩ := hc
    obtain ⟨d, hd⟩ := Option.isSome_iff_exists.mp hde
    obtain ⟨xs, hel⟩ := Option.isSome_iff_exists.mp hel
    have hr := hx.one_inv (fun fs e => by rw [e] at hel; simp [elems] at hel) (fun e => by rw [e] at hel; simp [elems] at hel) (fun vs e => by rw [e] at hel; simp [elems] at hel)
    obtain ⟨ad, cap, hpv, hlc⟩ := elems_len hs hel hr
    have hy := ev_ok he y
    rw [ey] at hy
    have hm := ev_ok he m
    rw [em] at hm
    refine ⟨_, _, _, h, OpOk.still hs (val := .slice ad 0 0) ?_ (.one (by simp) .z8)⟩
    simp [execOp, ho, hpv, hy.i_inv, hm.i_inv, Instr.sliceAt, Instr.sliceBounds, Instr.sliceBound, asIntOf, Sem.run_bind, run_underlying (und_P hu) w, Instr.slice, run_sizeOf hd, pure, Sem.run]
end
section
variable {C : Cfg}
variable {F : Nat → Prop} {σ : Sig} {S : List Blk} {w : World} {env : List AV} {a : Act} {o : Oper} {slot : Nat} {α : Type} {K : KV α} {out : α}
def RowV (C : Cfg) (w : World) (F : Nat → Prop) (e : TypeId) (xs : List AV) (ad : Option Addr) (cells : Nat → List Value) : Prop :=
 ∀ (j : Nat) x, xs[j]? = some x → Wt C e x ∧ R C w F noSig x (cells j) ∧ (cells j).length = C.sz e ∧ ∃ b o, ad = some ⟨b, o, none⟩ ∧ w.rangeAt b (o + j * C.sz e) (cells j)
theorem ArrAt.rowV {w : World} {F : Nat → Prop} {e : TypeId} {xs : List AV} {b o c : Nat} (h : ArrAt C w F e xs b o c) (off len : Nat) : ∃ cells, RowV C w F e ((xs.drop off).take len) (some ⟨b, o + off * C.sz e, none⟩) cells := by
 obtain ⟨_, cur, t, hh, hz, cells, hx⟩ := h
 refine ⟨fun j => cells (off + j), fun j x hj => ?_⟩
 have hget : xs[off + j]? = some x := by
  rw [List.getElem?_take] at hj
  split at hj
  ·rw [List.getElem?_drop] at hj; exact hj
  ·cases hj
 obtain ⟨q1, q2, q3, q4⟩ := hx _ _ hget
 refine ⟨q1, q2, q3, b, _, rfl, ?_⟩
 rw [show o + off * C.sz e + j * C.sz e = o + (off + j) * C.sz e by rw [Nat.add_mul]; omega]
 exact q4
theorem rows_of (hs : Sim C F σ S w) {x : AV} {xs : List AV} {v : Value} (he : elems S x = some xs) (hr : R C w F σ x [v]) {e : TypeId} (ht : elT x = some e ∨ elT x = none) : ∃ ad cap cells, v = .slice ad xs.length cap ∧ xs.length ≤ cap ∧ RowV C w F e xs ad cells := by
 obtain ⟨ad, cap, rfl, hc⟩ := elems_len hs he hr
 refine ⟨ad, cap, ?_⟩
 suffices h : ∃ cells, RowV C w F e xs ad cells by
  obtain ⟨cells, h⟩ := h
  exact ⟨cells, rfl, hc, h⟩
 by_cases h0 : xs = []
 ·subst h0
  exact ⟨fun _ => [], fun j x hj => by simp at hj⟩
 cases x <;> simp only [elems] at he <;> try (cases he; done)
 case l e' ys =>
  obtain rfl := Option.some.inj he
  simp only [elT] at ht
  obtain rfl : e' = e := by rcases ht with h | h <;> simp at h; exact h
  generalize hn : ys.length = n at hr
  cases hr with
  | l0 => exact absurd rfl h0
  | l cells h1 h2 h3 h4 => exact ⟨cells, fun j x hj => ⟨(h3 j x hj).1, h4 j x hj, (h3 j x hj).2.2, _, _, rfl, (h3 j x hj).2.1⟩⟩
 case z n =>
  match n, he with
  | 0, he => simp at he
  | 1, he => simp only [Option.some.injEq] at he; exact absurd he.symm h0
  | 8, he => simp only [Option.some.injEq] at he; exact absurd he.symm h0
  | 2, he | 3, he | 4, he | 5, he | 6, he | 7, he => simp at he
  | n + 9, he => simp at he
 case w e' id =>
  simp only [elT] at ht
  obtain rfl : e' = e := by rcases ht with h | h <;> simp at h; exact h
  have hb := hs.blk id
  cases hS : S.getD id .dead <;> rw [hS] at he hb <;> simp only at he <;> try (cases he; done)
  rename_i e2 ys
  obtain rfl := Option.some.inj he
  rcases hr.w_inv with ⟨b, o1, n, c, cap', g1, g2, g3, g4⟩ | ⟨g1, ad', _, g4⟩
  ·rw [g1] at hb
   obtain ⟨rfl, hn, hA⟩ := hb
   simp only [Value.slice.injEq] at g4
   obtain ⟨rfl, _, rfl⟩ := g4
   obtain ⟨cells, hc⟩ := hA.rowV 0 ys.length
   simp only [List.drop_zero, List.take_length, Nat.zero_mul, Nat.add_zero] at hc
   exact ⟨cells, hc⟩
  ·rw [g1] at hb
   exact absurd hb h0
 case r e' id off len =>
  simp only [elT] at ht
  obtain rfl : e' = e := by rcases ht with h | h <;> simp at h; exact h
  have hb := hs.blk id
  cases hS : S.getD id .dead <;> rw [hS] at he hb <;> simp only at he <;> try (cases he; done)
  rename_i e2 ys
  obtain rfl := Option.some.inj he
  generalize hn : ((ys.drop off).take len).length = n at hr
  cases hr with
  | r h1 h2 h3 h4 =>
   rw [h1] at hb
   obtain ⟨rfl, rfl, hA⟩ := hb
   exact hA.rowV off len
  | r0 => simp at h0
theorem RowV.load {e : TypeId} {xs : List AV} {ad : Option Addr} {cells : Nat → List Value} {w : World} {F : Nat → Prop} (h : RowV C w F e xs ad cells) (cap : Nat) : (Builtin.firstCells (C.sz e) xs.length (.slice ad xs.length cap)).run C.P w = .ok ((List.range xs.length).map cells).flatten.toArray w ∧ ((List.range xs.length).map cells).flatten.length = xs.length * C.sz e := by
 by_cases h0 : xs = []
 ·subst h0
  cases ad with
  | none => exact ⟨rfl, by simp⟩
  | some p => exact ⟨by simp [Builtin.firstCells, loadCells, loadCellsFrom, pure, Sem.run], by simp⟩
 ·obtain ⟨x, hx⟩ := getElem?_of_lt (l := xs) (j := 0) (by cases xs <;> simp_all)
  obtain ⟨_, _, _, b, o1, rfl, _⟩ := h 0 x hx
  obtain ⟨h1, h2⟩ := rangeAt_rows (w := w) (b := b) (o := o1) (s := C.sz e) (cells := cells) xs.length fun j hj => by
   obtain ⟨y, hy⟩ := getElem?_of_lt (l := xs) hj
   obtain ⟨q1, q2, q3, b', o', he, q4⟩ := h j y hy
   simp only [Option.some.injEq, Addr.mk.injEq] at he
   obtain ⟨rfl, rfl, _⟩ := he
   exact ⟨q3, q4⟩
  refine ⟨?_, h1⟩
  have := run_loadCells_list (P := C.P) w ⟨b, o1, none⟩ ((List.range xs.length).map cells).flatten fun j v hv => by rw [Addr.add_mid]; exact h2 j v hv
  rw [h1] at this
  exact this
theorem Sim.drop_ (hs : Sim C F σ S w) (ks : List Nat) : Sim C F σ (kill ks S) w ∧ Stp C F σ S w F σ (kill ks S) w := by
 have hlive : ∀ i, live (kill ks S) i → live S i := fun i h => by
  unfold live at *
  rw [getD_kill] at h
  cases hc : ks.contains i with
  | true => rw [hc] at h; exact absurd rfl h
  | false => rw [hc] at h; exact h
 refine ⟨⟨fun i => ?_, fun i i' c h1 h2 => hs.inj i i' c (hlive i h1) (hlive i' h2), fun i c h1 => hs.out i c (hlive i h1), fun i hi => hs.top i (by rw [kill_length] at hi; exact hi), hs.fin, hs.tab⟩, ⟨rfl, rfl, rfl, .inr (Nat.le_refl _), Nat.le_refl _, fun _ _ _ => rfl, fun _ h => h, fun _ h => .inl h, fun i c h1 h2 => .inr ⟨i, hlive i h1, h2⟩⟩⟩
 rw [getD_kill]
 cases hc : ks.contains i with
 | true => exact trivial
 | false => exact hs.blk i
theorem Sim.drew_ (hs : Sim C F σ S w) (n : Nat) (hn : w.drawn ≤ n) : Sim C F σ S { w with drawn := n } ∧ Stp C F σ S w F σ S { w with drawn := n } :=
 ⟨⟨fun i => BlkAt.mono (w := w) (w' := { w with drawn := n }) (F' := F) (σ' := σ) (fun _ _ => rfl) (fun _ h => h) (fun _ _ => rfl) (fun _ _ => rfl) (hs.blk i), hs.inj, hs.out, hs.top, hs.fin, hs.tab⟩, ⟨rfl, rfl, rfl, .inr hn, Nat.le_refl _, fun _ _ _ => rfl, fun _ h => h, fun _ h => .inl h, fun i c h1 h2 => .inr ⟨i, h1, h2⟩⟩⟩
theorem Sim.nil_ (hs : Sim C F σ S w) (hsl : Slot σ S slot) (e : TypeId) : Sim C F (σ.put slot .nil) (S.set slot (.arr e [])) w ∧ Stp C F σ S w F (σ.put slot .nil) (S.set slot (.arr e [])) w := by
 have hlive : ∀ id, live (S.set slot (.arr e [])) id → id ≠ slot → live S id := fun id h hne => by
  unfold live at *
  rwa [getD_set_ne hne] at h
 have hblk : ∀ id b, live (S.set slot (.arr e [])) id → (σ.put slot .nil id).blk = some b → id ≠ slot ∧ live S id ∧ (σ id).blk = some b := fun id b h1 h2 => by
  by_cases q : id = slot
  ·rw [q, put_self] at h2; cases h2
  ·rw [put_ne q] at h2; exact ⟨q, hlive id h1 q, h2⟩
 refine ⟨⟨fun id => ?_, fun id id' b h1 h2 h3 h4 => ?_, fun id b h1 h2 => ?_, fun id hid => ?_, hs.fin, hs.tab⟩, ⟨rfl, rfl, rfl, .inr (Nat.le_refl _), Nat.le_refl _, fun _ _ _ => rfl, fun _ h => h, fun _ h => .inl h, fun id b h1 h2 => ?_⟩⟩
 ·by_cases q : id = slot
  ·subst q
   rw [getD_set_self hsl.lt, put_self]
   exact rfl
  ·rw [getD_set_ne q, put_ne q]
   exact (hs.blk id).mono (fun _ _ => rfl) (fun _ h => h) (put_ext hsl.no) fun _ _ => rfl
 ·obtain ⟨_, l1, b1⟩ := hblk id b h1 h3
  obtain ⟨_, l2, b2⟩ := hblk id' b h2 h4
  exact hs.inj id id' b l1 l2 b1 b2
 ·obtain ⟨_, l1, b1⟩ := hblk id b h1 h2
  exact hs.out id b l1 b1
 ·rw [List.length_set] at hid
  rw [put_ne (by have := hsl.lt; omega)]
  exact hs.top id hid
 ·obtain ⟨_, l1, b1⟩ := hblk id b h1 h2
  exact .inr ⟨id, l1, b1⟩
theorem Sim.move_ (hs : Sim C F σ S w) (hsl : Slot σ S slot) {id b : Nat} (hlv : live S id) (hb : (σ id).blk = some b) (cells : Array Value) (B : Blk) (p : Place) (hp : p.blk = some b) (hB : BlkAt C (w.setRow b cells) F (σ.put slot p) B p) :
  Sim C F (σ.put slot p) ((kill [id] S).set slot B) (w.setRow b cells) ∧ Stp C F σ S w F (σ.put slot p) ((kill [id] S).set slot B) (w.setRow b cells) := by
 have hne : id ≠ slot := fun e => hlv (by rw [e]; exact hsl.dead)
 have hlt : slot < (kill [id] S).length := by rw [kill_length]; exact hsl.lt
 have hlive : ∀ i, live ((kill [id] S).set slot B) i → i ≠ slot → live S i ∧ i ≠ id := fun i h hn => by
  unfold live at h
  rw [getD_set_ne hn, getD_kill] at h
  by_cases q : i = id
  ·subst q; simp at h
  ·rw [if_neg (by simpa using q)] at h; exact ⟨h, q⟩
 have hF : ∀ c, F c → c ≠ b := fun c hc e => hs.out id b hlv hb (e ▸ hc)
 have hbn : ∀ i c, live S i → i ≠ id → (σ i).blk = some c → c ≠ b := fun i c hi hn hc e => hn (hs.inj i id c hi hlv hc (e ▸ hb))
 refine ⟨⟨fun i => ?_, fun i i' c h1 h2 h3 h4 => ?_, fun i c h1 h2 hFc => ?_, fun i hi => ?_, fun c hc => by rw [setRow_size]; exact hs.fin c hc, hs.tabk (fun c hc => setRow_other w b c cells (hF c hc)) fun _ h => h⟩, ⟨rfl, rfl, rfl, .inr (Nat.le_refl _), by rw [setRow_size]; exact Nat.le_refl _, fun c hc hn => setRow_other w b c cells fun e => hn id hlv (by rw [hb, e]), fun _ h => h, fun _ h => .inl h, fun i c h1 h2 => ?_⟩⟩
 ·by_cases q : i = slot
  ·subst q
   rw [getD_set_self hlt, put_self]
   exact hB
  ·rw [getD_set_ne q, put_ne q, getD_kill]
   by_cases q2 : i = id
   ·subst q2; simp; exact trivial
   ·rw [if_neg (by simpa using q2)]
    by_cases hi : live S i
    ·exact (hs.blk i).mono (fun c hc => setRow_other w b c cells (hF c hc)) (fun _ h => h) (put_ext hsl.no) fun c hc => setRow_other w b c cells (hbn i c hi q2 hc)
    ·have : S.getD i .dead = .dead := Classical.byContradiction fun h => hi h
     rw [this]
     exact trivial
 ·by_cases q : i = slot
  ·by_cases q' : i' = slot
   ·rw [q, q']
   ·rw [q, put_self, hp] at h3
    rw [put_ne q'] at h4
    obtain ⟨l1, l2⟩ := hlive i' h2 q'
    exact absurd (Option.some.inj h3).symm (hbn i' c l1 l2 h4)
  ·by_cases q' : i' = slot
   ·rw [q', put_self, hp] at h4
    rw [put_ne q] at h3
    obtain ⟨l1, l2⟩ := hlive i h1 q
    exact absurd (Option.some.inj h4).symm (hbn i c l1 l2 h3)
   ·rw [put_ne q] at h3
    rw [put_ne q'] at h4
    exact hs.inj i i' c (hlive i h1 q).1 (hlive i' h2 q').1 h3 h4
 ·by_cases q : i = slot
  ·rw [q, put_self, hp] at h2
   exact hF c hFc (Option.some.inj h2).symm
  ·rw [put_ne q] at h2
   exact hs.out i c (hlive i h1 q).1 h2 hFc
 ·rw [List.length_set, kill_length] at hi
  rw [put_ne (by have := hsl.lt; omega)]
  exact hs.top i hi
 ·by_cases q : i = slot
  ·rw [q, put_self, hp] at h2
   exact .inr ⟨id, hlv, by rw [hb, ← h2]⟩
  ·rw [put_ne q] at h2
   exact .inr ⟨i, (hlive i h1 q).1, h2⟩
theorem growBy_le (n : Nat) : ∀ r c, c < n → Builtin.growBy n r c ≤ n + (n + 768) / 4
 | 0, c, h => by simp only [Builtin.growBy]; omega
 | r + 1, c, h => by
  simp only [Builtin.growBy]
  rw [if_neg (by omega)]
  by_cases q : c + (c + 768) / 4 < n
  ·exact growBy_le n r _ q
  ·have : ∀ r c, n ≤ c → Builtin.growBy n r c = c := fun r c h => by
    cases r <;> simp only [Builtin.growBy]
    rw [if_pos h]
   rw [this r _ (by omega)]
   omega
theorem nextcap_le {n c : Nat} (h : c < n) : Builtin.nextslicecap n c ≤ 2 * n + 192 := by
 unfold Builtin.nextslicecap
 split
 ·omega
 ·split
  ·omega
  ·have := growBy_le n 4 c h
   omega
theorem grown_in (hl : layB C = true) {e : TypeId} {xs ys : List AV} {b o1 c : Nat} (hA : ArrAt C w F e xs b o1 c) (off len : Nat) (hlen : off + len ≤ xs.length) (hroom : len + ys.length + off ≤ c) {ycells : Nat → List Value} (hy : ∀ (j : Nat) y, ys[j]? = some y → Wt C e y ∧ R C w F noSig y (ycells j) ∧ (ycells j).length = C.sz e) {cur : Array Value} {t : TypeId} (hh : w.heap[b]? = some (.cells cur t (0, 0))) (hnF : ¬ F b)
  {vs : List Value} (hvs : vs = ((List.range ys.length).map ycells).flatten) (hvl : vs.length = ys.length * C.sz e) :
  ArrAt C (w.setRow b (cur.toList.take (o1 + off * C.sz e + len * C.sz e) ++ vs ++ cur.toList.drop (o1 + off * C.sz e + len * C.sz e + vs.length)).toArray) F e ((xs.drop off).take len ++ ys) b (o1 + off * C.sz e) (c - off) := by
 obtain ⟨xcells, hx⟩ := hA.rowV off len
 obtain ⟨hc, cur', t', hh', hz, _⟩ := hA
 rw [hh] at hh'
 simp only [Option.some.injEq, Obj.cells.injEq] at hh'
 obtain ⟨rfl, rfl, _⟩ := hh'
 have hxl : ((xs.drop off).take len).length = len := by simp; omega
 have hFk : ∀ d, F d → (w.setRow b (cur.toList.take (o1 + off * C.sz e + len * C.sz e) ++ vs ++ cur.toList.drop (o1 + off * C.sz e + len * C.sz e + vs.length)).toArray).heap[d]? = w.heap[d]? := fun d hd => setRow_other w b d _ fun q => hnF (q ▸ hd)
 have hmul : (off + len + ys.length) * C.sz e ≤ c * C.sz e := Nat.mul_le_mul_right _ (by omega)
 rw [Nat.add_mul, Nat.add_mul] at hmul
 have hl1 : (cur.toList.take (o1 + off * C.sz e + len * C.sz e)).length = o1 + off * C.sz e + len * C.sz e := by rw [List.length_take]; simp; omega
 have hoc : off * C.sz e + (c - off) * C.sz e = c * C.sz e := by rw [← Nat.add_mul]; congr 1; omega
 refine ⟨by rw [List.length_append, hxl]; omega, _, t', setRow_heap w b cur _ _ (0, 0) hh, ?_, fun j => if j < len then xcells j else ycells (j - len), fun j x hj => ?_⟩
 ·simp only [List.size_toArray, List.length_append, hl1, List.length_drop, Array.length_toList]
  omega
 ·rw [List.getElem?_append, hxl] at hj
  dsimp only
  by_cases q : j < len
  ·rw [if_pos q] at hj
   rw [if_pos q]
   obtain ⟨r1, r2, r3, b', o', he, r4⟩ := hx j x hj
   simp only [Option.some.injEq, Addr.mk.injEq] at he
   obtain ⟨rfl, rfl, _⟩ := he
   refine ⟨r1, r2.mono hFk (fun _ h => h) noSig (fun _ _ => rfl), r3, rangeAt_new hh r4 fun i hi => ?_⟩
   have : (j + 1) * C.sz e ≤ len * C.sz e := Nat.mul_le_mul_right _ q
   rw [Nat.add_mul] at this
   rw [List.getElem?_toArray, List.append_assoc, List.getElem?_append, hl1, if_pos (by omega), List.getElem?_take, if_pos (by omega), Array.getElem?_toList]
  ·rw [if_neg q] at hj
   rw [if_neg q]
   obtain ⟨r1, r2, r3⟩ := hy _ x hj
   refine ⟨r1, r2.mono hFk (fun _ h => h) noSig (fun _ _ => rfl), r3, rangeAt_set hh fun i v hv => ?_⟩
   have hi := getElem?_lt hv
   have hjl := getElem?_lt hj
   have hjm : (j - len + 1) * C.sz e ≤ ys.length * C.sz e := Nat.mul_le_mul_right _ (by omega)
   rw [Nat.add_mul] at hjm
   have e1 : len * C.sz e + (j - len) * C.sz e = j * C.sz e := by rw [← Nat.add_mul]; congr 1; omega
   rw [List.getElem?_toArray, List.append_assoc, List.getElem?_append, hl1, if_neg (by omega), List.getElem?_append, if_pos (by omega)]
   -- the cell within the new ones
   have hrows := (flat_at ((List.range ys.length).map ycells) (List.replicate ys.length (C.sz e)) (by simp) fun k c n hc hn => by
    have hk := getElem?_lt hc
    simp only [List.length_map, List.length_range] at hk
    rw [List.getElem?_map, List.getElem?_range hk] at hc
    simp only [Option.map_some, Option.some.injEq] at hc
    rw [List.getElem?_replicate, if_pos hk] at hn
    simp only [Option.some.injEq] at hn
    obtain ⟨y, hy'⟩ := getElem?_of_lt (l := ys) hk
    rw [← hc, ← hn]
    exact (hy k y hy').2.2).2 (j - len) (ycells (j - len)) (by rw [List.getElem?_map, List.getElem?_range hjl]; rfl)
   rw [← hvs, List.take_replicate, Nat.min_eq_left (by omega), List.sum_replicate_nat, r3] at hrows
   have := congrArg (·[i]?) hrows
   rw [List.getElem?_take, if_pos (by omega), List.getElem?_drop, hv] at this
   rw [← this]
   congr 1
   omega
theorem grown_new (hl : layB C = true) {e : TypeId} {xs ys : List AV} {xcells ycells : Nat → List Value} (hx : ∀ (j : Nat) y, xs[j]? = some y → Wt C e y ∧ R C w F noSig y (xcells j) ∧ (xcells j).length = C.sz e) (hy : ∀ (j : Nat) y, ys[j]? = some y → Wt C e y ∧ R C w F noSig y (ycells j) ∧ (ycells j).length = C.sz e)
  {w' : World} (hk : ∀ b, F b → w'.heap[b]? = w.heap[b]?) {g nc : Nat} {cur : Array Value} (hg : w'.heap[g]? = some (.cells cur e (0, 0))) (hsz : cur.size = nc * C.sz e) (hnc : xs.length + ys.length ≤ nc) (hcur : ∃ rest, cur.toList = ((List.range xs.length).map xcells).flatten ++ ((List.range ys.length).map ycells).flatten ++ rest) :
  ArrAt C w' F e (xs ++ ys) g 0 nc := by
 obtain ⟨rest, hcur⟩ := hcur
 refine ⟨by simpa using hnc, cur, ⟨e, fun _ => rfl⟩, hg, by omega, fun j => if j < xs.length then xcells j else ycells (j - xs.length), fun j v hj => ?_⟩
 have rows : ∀ (zs : List AV) (cells : Nat → List Value), (∀ (j : Nat) y, zs[j]? = some y → Wt C e y ∧ R C w F noSig y (cells j) ∧ (cells j).length = C.sz e) → ((List.range zs.length).map cells).flatten.length = zs.length * C.sz e ∧ ∀ j, j < zs.length → (((List.range zs.length).map cells).flatten.drop (j * C.sz e)).take (C.sz e) = cells j := fun zs cells hz => by
  obtain ⟨h1, h2⟩ := flat_at ((List.range zs.length).map cells) (List.replicate zs.length (C.sz e)) (by simp) fun k c n hc hn => by
   have hk := getElem?_lt hc
   simp only [List.length_map, List.length_range] at hk
   rw [List.getElem?_map, List.getElem?_range hk] at hc
   simp only [Option.map_some, Option.some.injEq] at hc
   rw [List.getElem?_replicate, if_pos hk] at hn
   simp only [Option.some.injEq] at hn
   obtain ⟨y, hy'⟩ := getElem?_of_lt (l := zs) hk
   rw [← hc, ← hn]
   exact (hz k y hy').2.2
  refine ⟨by rw [h1, List.sum_replicate_nat], fun j hj => ?_⟩
  obtain ⟨y, hy'⟩ := getElem?_of_lt (l := zs) hj
  have := h2 j (cells j) (by rw [List.getElem?_map, List.getElem?_range hj]; rfl)
  rw [List.take_replicate, Nat.min_eq_left (by omega), List.sum_replicate_nat, (hz j y hy').2.2] at this
  exact this
 obtain ⟨x1, x2⟩ := rows xs xcells hx
 obtain ⟨y1, y2⟩ := rows ys ycells hy
 have at_ : ∀ i v, cur.toList[i]? = some v → w'.cell? ⟨g, 0 + i, none⟩ = some v := fun i v hv => by
  rw [Array.getElem?_toList] at hv
  simp [World.cell?, hg, hv]
 have fin : ∀ (k : Nat) (c : List Value), (cur.toList.drop (k * C.sz e)).take (C.sz e) = c → w'.rangeAt g (0 + k * C.sz e) c := fun k c hc i u hu => by
  rw [← hc, List.getElem?_take] at hu
  split at hu
  ·rw [List.getElem?_drop] at hu
   rw [Nat.add_assoc]
   exact at_ _ u hu
  ·cases hu
 rw [List.getElem?_append] at hj
 dsimp only
 by_cases q : j < xs.length
 ·rw [if_pos q] at hj
  rw [if_pos q]
  obtain ⟨r1, r2, r3⟩ := hx j v hj
  refine ⟨r1, r2.mono hk (fun _ h => h) noSig (fun _ _ => rfl), r3, fin j _ ?_⟩
  have hm : (j + 1) * C.sz e ≤ xs.length * C.sz e := Nat.mul_le_mul_right _ q
  rw [Nat.add_mul] at hm
  rw [hcur, List.append_assoc, List.drop_append_of_le_length (by omega), List.take_append_of_le_length (by rw [List.length_drop]; omega)]
  exact x2 j q
 ·rw [if_neg q] at hj
  rw [if_neg q]
  obtain ⟨r1, r2, r3⟩ := hy _ v hj
  have hjl := getElem?_lt hj
  refine ⟨r1, r2.mono hk (fun _ h => h) noSig (fun _ _ => rfl), r3, fin j _ ?_⟩
  have hm : (j - xs.length + 1) * C.sz e ≤ ys.length * C.sz e := Nat.mul_le_mul_right _ hjl
  rw [Nat.add_mul] at hm
  have e1 : j * C.sz e = xs.length * C.sz e + (j - xs.length) * C.sz e := by rw [← Nat.add_mul]; congr 1; omega
  rw [hcur, List.append_assoc, e1, ← x1, List.drop_append, List.drop_eq_nil_of_le (by omega), List.nil_append, Nat.add_sub_cancel_left, List.drop_append_of_le_length (by omega), List.take_append_of_le_length (by rw [List.length_drop]; omega)]
  exact y2 _ hjl
end
end Go.Proofs.YteklakapimggeaaGreatDoor.Den
