/- An interpreter of the model that runs with unknowns. -/
import GoSem.Step
import Derived.Test.YtgplkbfjlidinabGreatDoorKit
set_option linter.unusedVariables false
set_option linter.unusedSimpArgs false
set_option linter.unnecessarySimpa false
/-
  An abstract interpreter for the model's code: it runs in the text's order, knows no capacities, and is a plain function.
  Nothing here is proved; the simulation is in AiSim*.
-/
namespace Go.Ai
inductive T (α : Type) where
 | e
 | n (l : T α) (v : Option α) (r : T α)
namespace T
variable {α : Type}
def get : T α → Nat → Option α
 | .e, _ => none
 | .n l v r, k => cond (Nat.beq k 0) v (cond (Nat.beq (k % 2) 1) (l.get (k / 2)) (r.get (k / 2 - 1)))
def left : T α → T α
 | .e => .e
 | .n l _ _ => l
def right : T α → T α
 | .e => .e
 | .n _ _ r => r
def top : T α → Option α
 | .e => none
 | .n _ v _ => v
def setF : Nat → T α → Nat → α → T α
 | 0, t, _, _ => t
 | f + 1, t, k, x => cond (Nat.beq k 0) (.n t.left (some x) t.right) (cond (Nat.beq (k % 2) 1) (.n (setF f t.left (k / 2) x) t.top t.right) (.n t.left t.top (setF f t.right (k / 2 - 1) x)))
def set (t : T α) (k : Nat) (x : α) : T α := setF (k + 1) t k x
def ofListFrom : Nat → List α → T α → T α
 | _, [], t => t
 | k, x :: r, t => ofListFrom (k + 1) r (t.set k x)
def ofList (l : List α) : T α := ofListFrom 0 l .e
end T
structure Env where
 n : Nat
 m : T Value
def Env.get (e : Env) (t : Nat) : Value := cond (Nat.blt t e.n) ((e.m.get t).getD undef) undef
def Env.put (e : Env) (t : Nat) (v : Value) : Env := { e with m := e.m.set t v }
def Env.dst (e : Env) : Option Nat → Value → Env
 | some t, v => e.put t v
 | none, _ => e
def Env.putL : Nat → List Value → Env → Env
 | _, [], e => e
 | k, v :: r, e => Env.putL (k + 1) r (e.put k v)
def Env.start (n : Nat) (args : List Value) : Env := Env.putL 0 args ⟨if args.length ≤ n then n else args.length, .e⟩
def Env.eval (e : Env) : Operand → Value
 | .tmp t => e.get t
 | .const v => v
 | .global g => .pointer (some ⟨g, 0, some 1⟩)
 | .func f => .func (.func f) #[] #[]
structure ALoop where
 state : LoopState
 pending : Option Code
 fn : FuncId
 tmps : Env
 params : Array Tmp
 assign : Code
 body : Code
inductive AObj where
 | cells (cs : List Value) (ty : Option TypeId := none)
 | arr (cs : List Value) (mv : Nat) (ro : Bool)
 | map (es : List MapEntry) (clock : Nat)
 | iter (map : Option Nat) (since : Nat) (seen : List Nat) (stepped : Nat)
 | siter (s : ByteArray) (pos : Nat)
 | loop (l : ALoop)
 | dead
def capd : Bool := false
def drl : Bool := false
structure St where
 h : T AObj
 n : Nat
def St.get (s : St) (i : Nat) : Option AObj := s.h.get i
def St.set (s : St) (i : Nat) (o : AObj) : St := { s with h := s.h.set i o }
def St.new (s : St) (o : AObj) : St := { s with h := s.h.set s.n o, n := s.n + 1 }
def Addr.plus (a : Addr) (n : Nat) : Addr := { a with off := a.off + n }
def St.cellsAt (s : St) (a : Addr) (n : Nat) : Option (List Value) :=
 match s.get a.block, a.spot with
 | some (.cells cs _), none => if a.off + n ≤ cs.length then some ((cs.drop a.off).take n) else none
 | some (.arr cs mv _), some hi => if mv ≤ hi ∧ hi ≤ cs.length ∧ a.off + n ≤ hi then some ((cs.drop a.off).take n) else none
 | _, _ => none
def splice (cs : List Value) (off : Nat) (vs : List Value) : List Value := cs.take off ++ vs ++ cs.drop (off + vs.length)
def one : Value → Bool
 | .agg _ | .tuple _ => false
 | _ => true
def St.putCells (s : St) (a : Addr) (vs : List Value) : Option St :=
 match s.get a.block, a.spot with
 | some (.cells cs ty), none => if a.off + vs.length ≤ cs.length ∧ vs.all one = true then some (s.set a.block (.cells (splice cs a.off vs) ty)) else none
 | some (.arr cs mv false), some hi => if mv ≤ hi ∧ hi = cs.length ∧ a.off + vs.length ≤ hi ∧ vs.all one = true then some (s.set a.block (.arr (splice cs a.off vs) hi false)) else none
 | _, _ => none
structure Ty where
 desc : TypeDesc
 size : Nat
 bytes : Nat
 zero : Option Value
 methods : Array Method
 cmp : Bool
inductive CK where
 | int (k : IntKind)
 | bool
 | string
 deriving DecidableEq
def CK.fits : CK → Value → Bool
 | .int k, .int k' _ => decide (k = k')
 | .bool, .bool _ => true
 | .string, .string _ => true
 | _, _ => false
def fitsK : List CK → List Value → Bool
 | [], [] => true
 | k :: ks, v :: vs => k.fits v && fitsK ks vs
 | _, _ => false
inductive Inl where
 | slice (n sz : Nat) (cs sp : List Value)
 | bare
 | ptr (cs : List Value)
structure Cfg where
 fn : Nat → Option Func
 ty : Nat → Option Ty
 peq : Nat → Option (List CK)
 dec : Nat → Option Inl
 cod : Inl → Nat
 lie : Nat → Bool := fun _ => false
def TypeDesc.agg : TypeDesc → Bool
 | .struct _ | .array _ _ => true
 | _ => false
variable (C : Cfg)
def intBin (op : BinOp) (k : IntKind) (x y : Int) : Option Value :=
 match op with
 | .add => some (.int k (k.wrap (x + y)))
 | .sub => some (.int k (k.wrap (x - y)))
 | .mul => some (.int k (k.wrap (x * y)))
 | .quo => if y = 0 then none else some (.int k (k.wrap (x.tdiv y)))
 | .rem => if y = 0 then none else some (.int k (x.tmod y))
 | .and => some (.int k (k.wrap (BitVec.ofInt k.bits x &&& BitVec.ofInt k.bits y).toNat))
 | .or => some (.int k (k.wrap (BitVec.ofInt k.bits x ||| BitVec.ofInt k.bits y).toNat))
 | .xor => some (.int k (k.wrap (BitVec.ofInt k.bits x ^^^ BitVec.ofInt k.bits y).toNat))
 | .andNot => some (.int k (k.wrap (BitVec.ofInt k.bits x &&& ~~~ BitVec.ofInt k.bits y).toNat))
 | .eql => some (.bool (x == y))
 | .neq => some (.bool (x != y))
 | .lss => some (.bool (x < y))
 | .leq => some (.bool (x ≤ y))
 | .gtr => some (.bool (x > y))
 | .geq => some (.bool (x ≥ y))
 | _ => none
def intShift (op : BinOp) (k : IntKind) (x y : Int) : Option Value :=
 if y < 0 then none else
 match op with
 | .shl => some (.int k (k.wrap (x * 2 ^ (min y.toNat k.bits))))
 | .shr => some (.int k (x.fdiv (2 ^ (min y.toNat k.bits))))
 | _ => none
def strBin (op : BinOp) (x y : ByteArray) : Option Value :=
 match op with
 | .add => if x.size + y.size ≤ 4611686018427387904 then some (.string (x ++ y)) else none
 | .eql => some (.bool (x.toList == y.toList))
 | .neq => some (.bool !(x.toList == y.toList))
 | .lss => some (.bool (Op.bytesLess x.toList y.toList))
 | .leq => some (.bool (Op.bytesLess x.toList y.toList || x.toList == y.toList))
 | .gtr => some (.bool !(Op.bytesLess x.toList y.toList || x.toList == y.toList))
 | .geq => some (.bool !(Op.bytesLess x.toList y.toList))
 | _ => none
def cellEq : Value → Value → Option Bool
 | .int k a, .int k' b => if k = k' then some (a == b) else none
 | .bool a, .bool b => some (a == b)
 | .string a, .string b => some (a == b)
 | _, _ => none
def cellsEq : List Value → List Value → Option Bool
  | [], [] => some true
  | x :: xs, y :: ys =>
    match cellEq x y, cellsEq xs ys with
    | some a, some b => some (a && b)
    | _, _ => none
  | _, _ => none
def ptrTo (e : TypeId) : Bool :=
 match C.ty e with
 | some et => et.size != 0
 | none => false
def eqB (s : St) (d : TypeDesc) (x y : Value) : Option Bool :=
  match d, x, y with
  | .bool, .bool a, .bool b => some (a == b)
  | .int _, .int k a, .int k' b => if k = k' then some (a == b) else none
  | .string, .string a, .string b => some (a == b)
  | .pointer _, .pointer none, .pointer b => some b.isNone
  | .pointer _, .pointer (some _), .pointer none => some false
  | .pointer e, .pointer (some a), .pointer (some b) =>
    match s.get a.block, s.get b.block, a.spot, b.spot with
    | some (.cells _ _), some (.cells _ _), none, none => if ptrTo C e then some (a.block == b.block && a.off == b.off) else none
    | _, _, _, _ => none
  | .slice _, .slice none _ _, .slice none _ _ => some true
  | .slice _, .slice none _ _, .slice (some a) n _ => if n = 0 ∧ a.spot.isSome then none else some false
  | .slice _, .slice (some a) n _, .slice none _ _ => if n = 0 ∧ a.spot.isSome then none else some false
  | .map _ _, .map none, .map b => some b.isNone
  | .map _ _, .map (some _), .map none => some false
  | .func _ _ _, .nilFunc, .nilFunc => some true
  | .func _ _ _, .nilFunc, .func _ _ _ | .func _ _ _, .func _ _ _, .nilFunc => some false
  | _, _, _ => none
def eqV (s : St) (lit : Bool) (t : TypeId) (x y : Value) : Option Bool :=
  match C.ty t, x, y with
  | some { desc := .interface ms, .. }, .nilIface, .nilIface => if lit || ms.isEmpty then some true else none
  | some { desc := .interface _, .. }, .nilIface, .iface _ _ | some { desc := .interface _, .. }, .iface _ _, .nilIface => some false
  | some { desc := .interface _, .. }, .iface tx vx, .iface ty vy =>
    if tx ≠ ty then some false else
    match C.ty tx with
    | some tt => if tt.cmp then eqB C s tt.desc vx vy else none
    | none => none
  | some _, .agg xs, .agg ys =>
    match C.peq t with
    | some ks => if fitsK ks xs.toList && fitsK ks ys.toList then cellsEq xs.toList ys.toList else none
    | none => none
  | some ty, x, y => eqB C s ty.desc x y
  | none, _, _ => none
def isConst : Operand → Bool
 | .const _ => true
 | _ => false
def isPt (t : TypeId) : Bool :=
 match C.ty t with
 | some { desc := .pointer _, .. } => true
 | _ => false
def isPtr (c : Nat) : Bool :=
 match C.dec c with
 | some (.ptr _) => true
 | _ => false
def binV (s : St) (lit : Bool) (op : BinOp) (t : TypeId) (x y : Value) : Option Value :=
 match op, x, y with
 | .eql, .chan (some c), .pointer none => if isPt C t && isPtr C c then some (.bool false) else none
 | .neq, .chan (some c), .pointer none => if isPt C t && isPtr C c then some (.bool true) else none
 | .shl, .int k a, .int _ b | .shr, .int k a, .int _ b => intShift op k a b
 | _, .int k a, .int k' b => if k = k' then intBin op k a b else none
 | _, .string a, .string b => strBin op a b
 | .lss, .complex _ a _, .int .i64 b => if b ≤ (a : Int) then some (.bool false) else none
 | .eql, x, y => (eqV C s lit t x y).map .bool
 | .neq, x, y => (eqV C s lit t x y).map fun b => .bool !b
 | _, _, _ => none
def unV (op : UnOp) (x : Value) : Option Value :=
 match op, x with
 | .neg, .int k n => some (.int k (k.wrap (0 - n)))
 | .xor, .int k n => some (.int k (k.wrap (BitVec.ofInt k.bits (if k.signed then -1 else k.max) ^^^ BitVec.ofInt k.bits n).toNat))
 | .not, .bool b => some (.bool !b)
 | _, _ => none
def partV (ty : Ty) (cs : Array Value) (off : Nat) : Option Value :=
 if TypeDesc.agg ty.desc then (if off + ty.size ≤ cs.size then some (.agg (cs.extract off (off + ty.size))) else none) else cs[off]?
def fieldV (t : TypeId) (x : Value) (i : Nat) : Option Value :=
  match C.ty t, x with
  | some { desc := .struct fs, .. }, .agg cs =>
    match fs[i]? with
    | some f => match C.ty f.type with
      | some ft => partV ft cs f.offset
      | none => none
    | none => none
  | _, _ => none
def indexV (t : TypeId) (x ix : Value) : Option Value :=
  match C.ty t, x, ix with
  | some { desc := .array len elem, .. }, .agg cs, .int _ i =>
    if 0 ≤ i ∧ i < len then (match C.ty elem with
      | some et => partV et cs (i.toNat * et.size)
      | none => none) else none
  | some { desc := .string, .. }, .string s, .int _ i =>
    if 0 ≤ i then (s[i.toNat]?).map fun b => .int .u8 b.toNat else none
  | _, _, _ => none
def fillV (place : Nat → Option (Nat × Nat)) (cells : List Value) : List (Nat × Value) → Option (List Value)
  | [] => some cells
  | (i, v) :: rest =>
    match place i with
    | none => none
    | some (off, size) =>
      if v.cells.size ≠ size || off + size > cells.length then none
      else fillV place (splice cells off v.cells.toList) rest
def places (fs : Array Field) (i : Nat) : Option (Nat × Nat) :=
 match fs[i]? with
 | some f => (C.ty f.type).map fun t => (f.offset, t.size)
 | none => none
def buildV (t : TypeId) (parts : List (Nat × Value)) : Option Value :=
  match C.ty t with
  | some { desc := .struct fs, zero := some z, .. } => if fs.toList.all fun f => (C.ty f.type).isSome then (fillV (places C fs) z.cells.toList parts).map fun cs => .agg cs.toArray else none
  | some { desc := .array _ elem, zero := some z, .. } =>
    match C.ty elem with
    | some et => (fillV (fun i => some (i * et.size, et.size)) z.cells.toList parts).map fun cs => .agg cs.toArray
    | none => none
  | _ => none
def zeros (z : List Value) : Nat → List Value
 | 0 => []
 | n + 1 => z ++ zeros z n
def convV (src dst : TypeId) (x : Value) : Option Value :=
 match C.ty src, C.ty dst, x with
 | some _, some { desc := .int k, .. }, .int _ n => some (.int k (k.wrap n))
 | some _, some { desc := .string, .. }, .string s => some (.string s)
 | _, _, _ => none
def fieldAddrV (t : TypeId) (x : Value) (i : Nat) : Option Value :=
  match C.ty t, x with
  | some { desc := .struct fs, .. }, .pointer (some a) =>
    match fs[i]? with
    | some f => match C.ty f.type with
      | some ft => if ft.size = 0 then none else some (.pointer (some (Addr.plus a f.offset)))
      | none => none
    | none => none
  | some { desc := .struct fs, .. }, .chan (some c) =>
    match fs[i]?, C.dec c with
    | some f, some (.ptr cs) => match C.ty f.type with
      | some ft => if ft.size = 0 then none else some (.chan (some (C.cod (.ptr (cs.drop f.offset)))))
      | none => none
    | _, _ => none
  | _, _ => none
def indexAddrV (t : TypeId) (x ix : Value) : Option Value :=
  match C.ty t, x, ix with
  | some { desc := .array len elem, .. }, .pointer (some a), .int _ i =>
    match C.ty elem with
    | some et => if 0 ≤ i ∧ i < len then some (.pointer (some (Addr.plus a (i.toNat * et.size)))) else none
    | none => none
  | some { desc := .slice elem, .. }, .slice (some a) len sz, .int _ i =>
    match C.ty elem with
    | some et => if et.size = sz ∧ 0 ≤ i ∧ i < len then some (.pointer (some (Addr.plus a (i.toNat * sz)))) else none
    | none => none
  | some { desc := .array len elem, .. }, .chan (some c), .int _ i =>
    match C.ty elem, C.dec c with
    | some et, some (.ptr cs) => if 0 ≤ i ∧ i < len then some (.chan (some (C.cod (.ptr (cs.drop (i.toNat * et.size)))))) else none
    | _, _ => none
  | some { desc := .slice elem, .. }, .chan (some c), .int _ i =>
    match C.ty elem, C.dec c with
    | some et, some (.slice n sz cs _) => if et.size = sz ∧ 0 ≤ i ∧ i < n then some (.chan (some (C.cod (.ptr (cs.drop (i.toNat * sz)))))) else none
    | _, _ => none
  | _, _, _ => none
def bound (x : Option Value) (d y : Nat) : Option Nat :=
 match x with
 | none => some d
 | some (.int _ i) => if 0 ≤ i ∧ i ≤ y then some i.toNat else none
 | some _ => none
def boundsV (len : Nat) (lo hi mx : Option Value) : Option (Nat × Nat) :=
  match bound mx len len with
  | none => none
  | some m =>
    match (match hi, mx with | none, some _ => none | _, _ => bound hi len m) with
    | none => none
    | some h => match bound lo 0 h with
      | none => none
      | some l => some (l, h)
def sliceT (cod : Inl → Nat) (n sz : Nat) (cs sp : List Value) (lo hi mx : Option Value) : Option Value :=
  match boundsV n lo hi mx with
  | some (l, h) => match mx with
    | none => some (.chan (some (cod (.slice (h - l) sz ((cs.drop (l * sz)).take ((h - l) * sz)) []))))
    | some (.int _ m) => if m = (l : Int) then some (.chan (some (cod .bare))) else some (.chan (some (cod (.slice (h - l) sz ((cs.drop (l * sz)).take ((h - l) * sz)) []))))
    | some _ => none
  | none => match lo, hi, mx with
    | none, some (.int _ h), none => if (n : Int) < h ∧ h * sz ≤ (n * sz + sp.length : Nat) then some (.chan (some (cod (.slice h.toNat sz ((cs ++ sp).take (h.toNat * sz)) [])))) else none
    | _, _, _ => none
def sliceV (t : TypeId) (x : Value) (lo hi mx : Option Value) : Option Value :=
  match C.ty t, x with
  | some { desc := .string, .. }, .string s =>
    match mx, boundsV s.size lo hi none with
    | none, some (l, h) => some (.string (s.extract l h))
    | _, _ => none
  | some { desc := .slice elem, .. }, .slice a len sz =>
    match boundsV len lo hi mx, a with
    | some (l, h), some a =>
      match C.ty elem with
      | some et => if et.size = sz then (match mx with
        | none => some (.slice (some (Addr.plus a (l * sz))) (h - l) sz)
        | some (.int _ m) => if m = (l : Int) then some (.chan (some (C.cod .bare))) else if capd = true then none else some (.slice (some (Addr.plus a (l * sz))) (h - l) sz)
        | some _ => none) else none
      | none => none
    | some (l, h), none => if len = 0 ∧ l = 0 ∧ h = 0 ∧ sz = 0 ∧ (C.ty elem).isSome then some (.slice none 0 0) else none
    | none, _ => none
  | some { desc := .array n elem, .. }, .pointer (some a) =>
    match boundsV n lo hi mx, C.ty elem with
    | some (l, h), some et => if et.size = 0 ∨ a.spot.isSome then none else some (.slice (some (Addr.plus a (l * et.size))) (h - l) et.size)
    | _, _ => none
  | some { desc := .pointer arr, .. }, .pointer (some a) =>
    match C.ty arr with
    | some { desc := .array n elem, .. } =>
      match boundsV n lo hi mx, C.ty elem with
      | some (l, h), some et => if et.size = 0 ∨ a.spot.isSome then none else some (.slice (some (Addr.plus a (l * et.size))) (h - l) et.size)
      | _, _ => none
    | _ => none
  | some { desc := .slice elem, .. }, .chan (some c) =>
    match C.ty elem, C.dec c with
    | some et, some (.slice n sz cs sp) => if et.size = sz then sliceT C.cod n sz cs sp lo hi mx else none
    | _, _ => none
  | _, _ => none
def missing (want : Array (String × TypeId)) (got : Array Method) : Bool :=
 (Instr.missingMethod want got).isSome
def assertV (x : Value) (t : TypeId) (ok : Bool) : Option Value :=
  let holds (v : Value) : Option Value := some (if ok then .tuple #[v, .bool true] else v)
  let fails (z : Option Value) : Option Value := if ok then z.map fun z => .tuple #[z, .bool false] else none
  match C.ty t, x with
  | some { desc := .interface _, zero, .. }, .nilIface => fails zero
  | some { desc := .interface want, zero, .. }, .iface u _ =>
    match C.ty u with
    | some ut => if missing want ut.methods then fails zero else holds x
    | none => none
  | some ty, .nilIface => fails ty.zero
  | some ty, .iface u v => if u = t then holds v else fails ty.zero
  | _, _ => none
def keyPlain : Value → Bool
 | .int _ _ | .string _ | .bool _ => true
 | .agg cs => cs.toList.all fun | .int _ _ | .string _ | .bool _ => true | _ => false
 | _ => false
def keyEq : Value → Value → Option Bool
 | .agg xs, .agg ys => cellsEq xs.toList ys.toList
 | x, y => cellEq x y
def findK (key : Value) : List MapEntry → Nat → Option (Option (Nat × MapEntry))
  | [], _ => some none
  | e :: es, i =>
    match keyEq key e.key with
    | some true => some (some (i, e))
    | some false => findK key es (i + 1)
    | none => none
def keyOk (kt : TypeId) (key : Value) : Bool :=
  match C.ty kt, key with
  | some { desc := .int _, .. }, .int _ _ | some { desc := .string, .. }, .string _ | some { desc := .bool, .. }, .bool _ => true
  | some { desc := .struct _, .. }, .agg cs | some { desc := .array _ _, .. }, .agg cs => (match C.peq kt with
    | some ks => fitsK ks cs.toList
    | none => false)
  | _, _ => false
def loadV (s : St) (t : TypeId) (x : Value) : Option Value :=
  match C.ty t, x with
  | some ty, .pointer (some a) =>
    if TypeDesc.agg ty.desc then (s.cellsAt a ty.size).map fun cs => .agg cs.toArray
    else match s.cellsAt a 1 with
      | some [v] => some v
      | _ => none
  | some ty, .chan (some c) =>
    match C.dec c with
    | some (.ptr cs) => if TypeDesc.agg ty.desc then (if ty.size ≤ cs.length then some (.agg (cs.take ty.size).toArray) else none) else cs.head?
    | _ => none
  | _, _ => none
def storeV (s : St) (t : TypeId) (x v : Value) : Option St :=
 match C.ty t, x with
 | some ty, .pointer (some a) => if v.cells.size = ty.size then s.putCells a v.cells.toList else none
 | _, _ => none
def mapOf (s : St) (m : Value) : Option (List MapEntry) :=
  match m with
  | .map none => some []
  | .map (some r) => match s.get r with
    | some (.map es _) => some es
    | _ => none
  | _ => none
def lookupV (s : St) (t : TypeId) (m key : Value) (ok : Bool) : Option Value :=
  match C.ty t, mapOf s m with
  | some { desc := .map kt et, .. }, some es =>
    if keyOk C kt key then
      match findK key es 0 with
      | some (some (_, e)) => some (if ok then .tuple #[e.val, .bool true] else e.val)
      | some none => match C.ty et with
        | some { zero := some z, .. } => some (if ok then .tuple #[z, .bool false] else z)
        | _ => none
      | none => none
    else none
  | _, _ => none
def updateV (s : St) (t : TypeId) (m key v : Value) : Option St :=
  match C.ty t, m with
  | some { desc := .map kt _, .. }, .map (some r) =>
    match s.get r with
    | some (.map es clock) =>
      if keyOk C kt key then
        match findK key es 0 with
        | some (some (i, _)) => some (s.set r (.map (es.modify i fun e => { e with key := key, val := v }) clock))
        | some none => some (s.set r (.map (es ++ [{ key := key, val := v, born := clock }]) (clock + 1)))
        | none => none
      else none
    | _ => none
  | _, _ => none
def mapEntryV (s : St) (t : TypeId) (m key : Value) : Option (Value × St) :=
  match C.ty t, m with
  | some { desc := .map kt et, .. }, .map (some r) =>
    match s.get r with
    | some (.map es clock) =>
      if keyOk C kt key then
        match findK key es 0 with
        | some (some (i, e)) => some (.tuple #[e.val, goInt e.born], s.set r (.map (es.modify i fun e => { e with key := key }) clock))
        | some none => match C.ty et with
          | some { zero := some z, .. } => some (.tuple #[z, goInt clock], s.set r (.map (es ++ [{ key := key, val := z, born := clock }]) (clock + 1)))
          | _ => none
        | none => none
      else none
    | _ => none
  | _, _ => none
def entryStoreV (s : St) (m stamp v : Value) : Option St :=
  match m, stamp with
  | .map (some r), .int _ n =>
    match s.get r with
    | some (.map es clock) =>
      match es.findIdx? (fun e => (e.born : Int) == n) with
      | some i => some (s.set r (.map (es.modify i fun e => { e with val := v }) clock))
      | none => none
    | _ => none
  | _, _ => none
def deleteV (s : St) (t : TypeId) (m key : Value) : Option St :=
  match C.ty t, m with
  | some { desc := .map kt _, .. }, .map none => if keyOk C kt key then some s else none
  | some { desc := .map kt _, .. }, .map (some r) =>
    match s.get r with
    | some (.map es clock) =>
      if keyOk C kt key then
        match findK key es 0 with
        | some (some (i, _)) => some (s.set r (.map (es.eraseIdx i) clock))
        | some none => some s
        | none => none
      else none
    | _ => none
  | _, _ => none
def rangeV (s : St) (t : TypeId) (x : Value) : Option (Value × St) :=
  match C.ty t, x with
  | some { desc := .string, .. }, .string b => some (.pointer (some ⟨s.n, 0, none⟩), s.new (.siter b 0))
  | some { desc := .map _ _, .. }, .map none => some (.pointer (some ⟨s.n, 0, none⟩), s.new (.iter none 0 [] 0))
  | some { desc := .map _ _, .. }, .map (some m) =>
    match s.get m with
    | some (.map _ clock) => some (.pointer (some ⟨s.n, 0, none⟩), s.new (.iter (some m) clock [] clock))
    | _ => none
  | _, _ => none
def nextV (s : St) (it : Value) (isString : Bool) : Option (List (Value × St)) :=
  match it with
  | .pointer (some ⟨r, 0, none⟩) =>
    match s.get r, isString with
    | some (.siter b pos), true =>
      if pos < b.size then some [(.tuple #[.bool true, goInt pos, .int .i32 (Utf8.decode b pos).1], s.set r (.siter b (pos + (Utf8.decode b pos).2)))]
      else some [(.tuple #[.bool false], s)]
    | some (.iter none _ _ _), false => some [(.tuple #[.bool false], s)]
    | some (.iter (some m) since seen last), false =>
      match s.get m with
      | some (.map es clock) =>
        if !seen.isEmpty && !es.isEmpty && es.all (fun e => decide (e.born ≥ last)) then none else
        let left := es.filter fun e => !seen.contains e.born
        let old := left.filter fun e => decide (e.born < since)
        let new := left.filter fun e => decide (e.born ≥ since)
        some ((if old.isEmpty then [(.tuple #[.bool false], s)] else []) ++
          (old ++ new).map fun e => (.tuple #[.bool true, e.key, e.val], s.set r (.iter (some m) since (seen ++ [e.born]) clock)))
      | _ => none
    | _, _ => none
  | _ => none
def entryV (s : St) (it : Value) : Option Value :=
  match it with
  | .pointer (some ⟨r, 0, none⟩) =>
    match s.get r with
    | some (.iter (some m) _ seen stepped) =>
      match seen.getLast?, s.get m with
      | some stamp, some (.map es clock) =>
        if clock = stepped then (es.find? (fun e => e.born == stamp)).map fun e => .tuple #[e.key, e.val] else none
      | _, _ => none
    | _ => none
  | _ => none
def makeSliceV (s : St) (t : TypeId) (l c : Value) : Option (Value × St) :=
  match C.ty t, l, c with
  | some { desc := .slice elem, .. }, .int _ l, .int _ c =>
    match C.ty elem with
    | some { size := sz, bytes, zero := some z, .. } =>
      if 0 ≤ l ∧ l ≤ c ∧ c ≤ 4611686018427387904 ∧ bytes * c.toNat ≤ 281474976710656 ∧ sz = z.cells.size ∧ 0 < sz then
        some (.slice (some ⟨s.n, 0, some (l.toNat * sz)⟩) l.toNat sz, s.new (.arr (zeros z.cells.toList l.toNat) 0 false))
      else none
    | _ => none
  | _, _, _ => none
def buildSliceV (s : St) (t : TypeId) (len : Nat) (parts : List (Nat × Value)) : Option (Value × St) :=
  match C.ty t with
  | some { desc := .slice elem, .. } =>
    match C.ty elem with
    | some { size := sz, zero := some z, .. } =>
      if len * sz ≤ 16777216 ∧ sz = z.cells.size ∧ 0 < sz then
        (fillV (fun i => some (i * sz, sz)) (zeros z.cells.toList len) parts).map fun cs =>
          (.slice (some ⟨s.n, 0, some (len * sz)⟩) len sz, s.new (.arr cs 0 false))
      else none
    | _ => none
  | _ => none
def firstV (C : Cfg) (s : St) (sz n : Nat) (x : Value) : Option (List Value) :=
  match x with
  | .slice none _ _ => if n = 0 then some [] else none
  | .slice (some a) len sz' => if sz' = sz ∧ n ≤ len then (if n = 0 then some [] else s.cellsAt a (n * sz)) else none
  | .string b => if sz = 1 ∧ n ≤ b.size then some ((b.data.toList.take n).map fun x => .int .u8 x.toNat) else none
  | .chan (some c) => match C.dec c with
    | some (.slice m sz' cs _) => if sz' = sz ∧ n ≤ m then some (cs.take (n * sz)) else none
    | _ => none
  | _ => none
def lenV (C : Cfg) : Value → Option Nat
  | .slice _ n _ => some n
  | .string b => some b.size
  | .chan (some c) => match C.dec c with
    | some (.slice n _ _ _) => some n
    | _ => none
  | _ => none
def appendV (s : St) (t : TypeId) (v x : Value) : Option (Value × St) :=
  match C.ty t with
  | some { desc := .slice elem, .. } =>
    match C.ty elem with
    | some { size := sz, bytes, zero := some z, .. } =>
      if sz = z.cells.size ∧ 0 < sz ∧ 0 < bytes then
        match lenV C x with
        | none => none
        | some n =>
          match firstV C s sz n x with
          | none => none
          | some news =>
            match v with
            | .slice none 0 0 =>
              if n = 0 then some (v, s) else
              if n * bytes ≤ 140737488355328 ∧ news.all one = true then some (.slice (some ⟨s.n, 0, some (n * sz)⟩) n sz, s.new (.arr news 0 false)) else none
            | .slice (some a) len sz' =>
              if sz' = sz then
                if n = 0 then some (v, s) else
                if (len + n) * bytes ≤ 140737488355328 ∧ news.all one = true then
                  match s.get a.block, a.spot with
                  | some (.arr cs mv false), some hi =>
                    if mv ≤ hi ∧ hi ≤ cs.length ∧ a.off + len * sz ≤ hi then
                      if a.off + len * sz = cs.length then
                        some (.slice (some ⟨a.block, a.off, some (cs.length + n * sz)⟩) (len + n) sz, s.set a.block (.arr (cs ++ news) mv false))
                      else
                        let s1 := s.set a.block .dead
                        some (.slice (some ⟨s1.n, 0, some ((len + n) * sz)⟩) (len + n) sz, s1.new (.arr ((cs.drop a.off).take (len * sz) ++ news) 0 false))
                    else none
                  | _, _ => none
                else none
              else none
            | .chan (some c) => match C.dec c with
              | some .bare => if n = 0 then some (v, s) else
                if n * bytes ≤ 140737488355328 ∧ news.all one = true then some (.slice (some ⟨s.n, 0, some (n * sz)⟩) n sz, s.new (.arr news 0 false)) else none
              | _ => none
            | _ => none
      else none
    | _ => none
  | _ => none
def copyV (s : St) (t : TypeId) (dst src : Value) : Option (Value × St) :=
  match C.ty t, dst with
  | some { desc := .slice elem, .. }, .slice base dlen sz =>
    match C.ty elem, lenV C src with
    | some et, some slen =>
      let n := Nat.min slen dlen
      if n = 0 then some (goInt 0, s) else
      match base with
      | some a =>
        if et.size = sz then
          match firstV C s sz n src with
          | some cs => (s.putCells a cs).map fun s' => (goInt n, s')
          | none => none
        else none
      | none => none
    | _, _ => none
  | _, _ => none
def clearV (s : St) (t : TypeId) (x : Value) : Option (Value × St) :=
  match C.ty t, x with
  | some { desc := .slice elem, .. }, .slice base n sz =>
    if n = 0 then some (.tuple #[], s) else
    match base, C.ty elem with
    | some a, some { size := k, zero := some z, .. } => if k = sz ∧ sz = z.cells.size ∧ 0 < sz then (s.putCells a (zeros z.cells.toList n)).map fun s' => (.tuple #[], s') else none
    | _, _ => none
  | _, _ => none
def bytesOf : List Value → Option (List UInt8)
 | [] => some []
 | .int .u8 n :: r => (bytesOf r).map (UInt8.ofNat n.toNat :: ·)
 | _ => none
def convS (s : St) (src dst : TypeId) (x : Value) : Option (Value × St) :=
  match C.ty src, C.ty dst, x with
  | some { desc := .string, .. }, some { desc := .slice e, .. }, .string b =>
    match C.ty e with
    | some { desc := .int .u8, .. } =>
      some (.slice (some ⟨s.n, 0, some b.size⟩) b.size 1, s.new (.arr (b.data.toList.map fun x => .int .u8 x.toNat) 0 false))
    | _ => none
  | some { desc := .slice e, .. }, some { desc := .string, .. }, .slice a len sz =>
    match C.ty e, a with
    | some { desc := .int .u8, .. }, none => some (.string .empty, s)
    | some { desc := .int .u8, .. }, some a =>
      if len = 0 then some (.string .empty, s) else
      if sz = 1 then
        match s.cellsAt a len with
        | some cs => (bytesOf cs).map fun bs => (.string ⟨bs.toArray⟩, s)
        | none => none
      else none
    | _, _ => none
  | some { desc := .slice e, .. }, some { desc := .slice _, .. }, .slice (some a) len sz =>
    match C.ty e with
    | some { desc := .int .u8, .. } => (match s.get a.block, a.spot with
      | some (.arr cs mv false), some hi => if src = dst ∧ mv ≤ hi ∧ hi ≤ cs.length ∧ 0 < len then some (.slice (some a) len sz, s) else none
      | _, _ => none)
    | _ => none
  | some { desc := .slice e, .. }, some { desc := .string, .. }, .chan (some c) =>
    match C.ty e, C.dec c with
    | some { desc := .int .u8, .. }, some (.slice _ 1 cs _) => (bytesOf cs).map fun bs => (.string ⟨bs.toArray⟩, s)
    | _, _ => none
  | some { desc := .pointer e, .. }, some { desc := .unsafePointer, .. }, .pointer (some a) =>
    match C.ty e, s.get a.block, a.spot with
    | some et, some (.cells cs _), none => if et.size ≠ 0 ∧ a.off < cs.length then some (.pointer (some a), s) else none
    | _, _, _ => none
  | some { desc := .unsafePointer, .. }, some { desc := .pointer e, .. }, .pointer (some a) =>
    match C.ty e, s.get a.block, a.spot with
    | some et, some (.cells cs (some t)), none => if C.lie e = true ∧ t = e ∧ a.off = 0 ∧ cs.length = et.size ∧ et.size ≠ 0 then some (.pointer (some a), s) else none
    | _, _, _ => none
  | _, _, _ => (convV C src dst x).map fun v => (v, s)
def lenB (s : St) (t : TypeId) (x : Value) : Option Value :=
  match C.ty t, x with
  | some { desc := .string, .. }, .string b => some (goInt b.size)
  | some { desc := .array n _, .. }, _ => some (goInt n)
  | some { desc := .pointer arr, .. }, _ => match C.ty arr with
    | some { desc := .array n _, .. } => some (goInt n)
    | _ => none
  | some { desc := .slice _, .. }, .slice _ n _ => some (goInt n)
  | some { desc := .map _ _, .. }, .map none => some (goInt 0)
  | some { desc := .map _ _, .. }, .map (some r) => match s.get r with
    | some (.map es _) => some (goInt es.length)
    | _ => none
  | some { desc := .slice _, .. }, .chan (some c) => match C.dec c with
    | some (.slice n _ _ _) => some (goInt n)
    | some .bare => some (goInt 0)
    | _ => none
  | _, _ => none
def capB (t : TypeId) (x : Value) : Option Value :=
  match C.ty t, x with
  | some { desc := .slice _, .. }, .chan (some c) => match C.dec c with
    | some (.slice _ sz cs sp) => some (.complex .f64 ((cs.length + sp.length) / sz) 0)
    | _ => none
  | _, _ => none
def max2V : Value → Value → Option Value
 | .int k x, .int k' y => if k = k' then some (.int k (if y > x then y else x)) else none
 | _, _ => none
def min2V : Value → Value → Option Value
 | .int k x, .int k' y => if k = k' then some (.int k (if y < x then y else x)) else none
 | _, _ => none
def foldV (f : Value → Value → Option Value) : Value → List Value → Option Value
  | x, [] => some x
  | x, y :: r => match f x y with
    | some z => foldV f z r
    | none => none
def builtinV (s : St) (b : Builtin) (ts : Array TypeId) (args : List Value) : Option (Value × St) :=
  match b, ts[0]?, args with
  | .len, some t, [x] => (lenB C s t x).map fun v => (v, s)
  | .append, some t, [v, x] => (match ts[1]? with
    | some u => (match C.ty u with
      | some { desc := .int _, .. } => none
      | some _ => appendV C s t v x
      | none => none)
    | none => none)
  | .copy, some t, [d, x] => copyV C s t d x
  | .clear, some t, [x] => clearV C s t x
  | .delete, some t, [m, k] => (deleteV C s t m k).map fun s' => (.tuple #[], s')
  | .max, _, x :: r => (foldV max2V x r).map fun v => (v, s)
  | .min, _, x :: r => (foldV min2V x r).map fun v => (v, s)
  | .cap, some t, [x] => (capB C t x).map fun v => (v, s)
  | _, _, _ => none
def Z2m (ρ : Operand → Value) (s : St) (o : Op) : Option (Value × St) :=
  match o with
  | .move x | .assign x => some (ρ x, s)
  | .pick c a b => (match ρ c with
    | .bool t => some (if t then ρ a else ρ b, s)
    | _ => none)
  | .alloc t => (match C.ty t with
    | some { zero := some z, .. } => some (.pointer (some ⟨s.n, 0, none⟩), s.new (.cells z.cells.toList (bif C.lie t then some t else none)))
    | _ => none)
  | .box _ x => some (.pointer (some ⟨s.n, 0, none⟩), s.new (.cells (ρ x).cells.toList))
  | .build t parts => (buildV C t (parts.toList.map fun (i, x) => (i, ρ x))).map fun v => (v, s)
  | .buildSlice t len parts => buildSliceV C s t len (parts.toList.map fun (i, x) => (i, ρ x))
  | .load t a => (loadV C s t (ρ a)).map fun v => (v, s)
  | .store t a x => (storeV C s t (ρ a) (ρ x)).map fun s' => (undef, s')
  | .nilCheck x => (match ρ x with
    | .pointer (some a) => some (.pointer (some a), s)
    | .func (.func f) a b => some (.func (.func f) a b, s)
    | .func (.yield l) a b => some (.func (.yield l) a b, s)
    | .iface t v => some (.iface t v, s)
    | .chan (some c) => (match C.dec c with
      | some (.ptr _) => some (.chan (some c), s)
      | _ => none)
    | _ => none)
  | .binOp op t x y _ => (binV C s (isConst x || isConst y) op t (ρ x) (ρ y)).map fun v => (v, s)
  | .unOp op _ x => (unV op (ρ x)).map fun v => (v, s)
  | .convert src dst x => convS C s src dst (ρ x)
  | .makeInterface t x => (match C.ty t with
    | some { desc := .interface _, .. } => none
    | some _ => some (.iface t (ρ x), s)
    | none => none)
  | .makeFunc fn first captured => (match fn with
    | .yield _ => none
    | fn => some (.func fn (first.map ρ) (captured.map ρ), s))
  | .makeMap t r => (match C.ty t, r with
    | some { desc := .map _ _, .. }, none => some (.map (some s.n), s.new (.map [] 0))
    | some { desc := .map _ _, .. }, some r => (match ρ r with
      | .int _ _ => some (.map (some s.n), s.new (.map [] 0))
      | _ => none)
    | _, _ => none)
  | .makeSlice t l c => makeSliceV C s t (ρ l) (ρ c)
  | .slice t x lo hi mx => (sliceV C t (ρ x) (lo.map ρ) (hi.map ρ) (mx.map ρ)).map fun v => (v, s)
  | .fieldAddr t x i => (fieldAddrV C t (ρ x) i).map fun v => (v, s)
  | .field t x i => (fieldV C t (ρ x) i).map fun v => (v, s)
  | .indexAddr t x ix => (indexAddrV C t (ρ x) (ρ ix)).map fun v => (v, s)
  | .index t x ix => (indexV C t (ρ x) (ρ ix)).map fun v => (v, s)
  | .lookup t m k ok => (lookupV C s t (ρ m) (ρ k) ok).map fun v => (v, s)
  | .mapUpdate t m k x | .insert t m k x => (updateV C s t (ρ m) (ρ k) (ρ x)).map fun s' => (undef, s')
  | .mapEntry t m k => mapEntryV C s t (ρ m) (ρ k)
  | .entryStore _ m st x => (entryStoreV s (ρ m) (ρ st) (ρ x)).map fun s' => (undef, s')
  | .range t x => rangeV C s t (ρ x)
  | .entry it => (entryV s (ρ it)).map fun v => (v, s)
  | .typeAssert x _ t ok => (assertV C (ρ x) t ok).map fun v => (v, s)
  | .extract t ix => (match ρ t with
    | .tuple vs => (vs[ix]?).map fun v => (v, s)
    | _ => none)
  | .call { callee := .builtin b, args, argTypes } => builtinV C s b argTypes (args.toList.map ρ)
  | _ => none
inductive Task where
 | code (fid : FuncId) (c : Code) (e : Env)
 | call (f : FuncId) (args : List Value)
 | round (l : Nat) (args : List Value)
inductive Out where
 | normal
 | exit (id : Nat)
 | ret
inductive Res where
 | out (o : Out) (e : Env)
 | val (v : Value)
inductive M (α : Type) where
 | ret (a : α)
 | fail
 | ask (n : Nat) (k : Nat → M α)
namespace M
variable {α β : Type}
def bind : M α → (α → M β) → M β
 | .ret a, f => f a
 | .fail, _ => .fail
 | .ask n k, f => .ask n fun i => (k i).bind f
def ofOption : Option α → M α
 | some a => .ret a
 | none => .fail
def ofList : List α → M α
  | [] => .fail
  | [a] => .ret a
  | l => .ask l.length fun i => match l[i]? with
    | some a => .ret a
    | none => .fail
def All (Q : α → Prop) : M α → Prop
 | .ret a => Q a
 | .fail => False
 | .ask n k => 0 < n ∧ ∀ i, i < n → (k i).All Q
end M
abbrev Rec := Task → St → M (Res × St)
def methodV (t : TypeId) (name : String) : Option FuncId :=
  match C.ty t with
  | some ty =>
    match ty.methods.find? (·.name == name) with
    | some { path, func := some (f, ptr), .. } =>
      if path.isEmpty then
        (match ty.desc, ptr with
        | .pointer _, true => some f
        | .pointer _, false => none
        | _, true => none
        | _, false => some f)
      else none
    | _ => none
  | none => none
def target (_s : St) (ρ : Operand → Value) (c : Call) : Option Task :=
  match c.callee with
  | .builtin _ => none
  | .value f =>
    match ρ f with
    | .func (.func g) first captured => some (.call g (first.toList ++ c.args.toList.map ρ ++ captured.toList))
    | .func (.yield l) first _captured => some (.round l (first.toList ++ c.args.toList.map ρ))
    | .func (.methodOf t name) first _ =>
      (match first.toList ++ c.args.toList.map ρ with
      | r :: rest => (match C.ty t, r with
        | some { desc := .interface _, .. }, .iface u v => (methodV C u name).map fun g => .call g (v :: rest)
        | some { desc := .interface _, .. }, _ => none
        | some _, v => (methodV C t name).map fun g => .call g (v :: rest)
        | none, _ => none)
      | [] => none)
    | .func (.method name) first _ =>
      (match first.toList ++ c.args.toList.map ρ with
      | .iface u v :: rest => (methodV C u name).map fun g => .call g (v :: rest)
      | _ => none)
    | _ => none
  | .invoke recv name =>
    match ρ recv with
    | .iface t v => (methodV C t name).map fun g => .call g (v :: c.args.toList.map ρ)
    | _ => none
def Z2p (ops : Array Oper) (e : Env) (j : Nat) : Option Bool :=
  match (ops[j]?).bind (·.dst) with
  | some d => match e.get d with
    | .bool b => some b
    | _ => none
  | none => none
def valOnly : Res × St → M (Value × St)
 | (.val v, s) => .ret (v, s)
 | _ => .fail
def add64V : List Value → Option Value
 | [.int .u64 x, .int .u64 y, .int .u64 c] => if 0 ≤ x ∧ 0 ≤ y ∧ 0 ≤ c ∧ c ≤ 1 then some (.tuple #[.int .u64 ((x + y + c) % 18446744073709551616), .int .u64 ((x + y + c) / 18446744073709551616)]) else none
 | _ => none
def oneV : List Value → Option Value
 | [x] => some x
 | _ => none
def countV : List Value → Option Value
 | [.string b, .int .u8 c] => some (goInt (b.foldl (fun n x => if x == c.toNat.toUInt8 then n + 1 else n) (0 : Nat)))
 | _ => none
def findV : List Value → Option Value
  | [.string b, .int .u8 c] => match (List.range b.size).find? fun i => b[i]! == c.toNat.toUInt8 with
    | some i => some (goInt i)
    | none => some (goInt (-1))
  | _ => none
def extV : Task → Option Value
  | .call f args => match C.fn f with
    | some fn => match fn.body with
      | some _ => none
      | none => if fn.name = "math/bits.Add64" ∧ fn.origin = "" then add64V args else if fn.name = "internal/abi.NoEscape" ∧ fn.origin = "" then oneV args else if fn.name = "internal/bytealg.CountString" ∧ fn.origin = "" then countV args else if fn.name = "internal/bytealg.IndexByteString" ∧ fn.origin = "" then findV args else none
    | none => none
  | _ => none
def callT (rc : Rec) (s : St) (t : Task) : M (Value × St) :=
 match extV C t with
 | some v => .ret (v, s)
 | none => (rc t s).bind valOnly
def eqOp : BinOp → Option Bool
 | .eql => some true
 | .neq => some false
 | _ => none
def isSl (t : TypeId) : Bool :=
 match C.ty t with
 | some { desc := .slice _, .. } => true
 | _ => false
def tokN (c : Nat) : Option Nat :=
 match C.dec c with
 | some (.slice n _ _ _) => some n
 | _ => none
def nilOf : Value → Option Nat
 | .chan (some c) => tokN C c
 | .slice (some ⟨_, _, some _⟩) n _ => some n
 | _ => none
def nilN : Value → Value → Option Nat
 | x, .slice none _ _ => nilOf C x
 | .slice none _ _, y => nilOf C y
 | _, _ => none
def nilTok (op : BinOp) (t : TypeId) (x y : Value) : Option (List Bool) :=
 match eqOp op with
 | some q => if isSl C t then (nilN C x y).map fun n => if n = 0 then [true, false] else [!q] else none
 | none => none
def oneOp (rc : Rec) (e : Env) (s : St) (o : Op) : M (Value × St) :=
  match o with
  | .binOp op t x y c => (match nilTok C op t (e.eval x) (e.eval y) with
    | some l => .ofList (l.map fun b => (.bool b, s))
    | none => .ofOption (Z2m C e.eval s (.binOp op t x y c)))
  | .call { callee := .builtin b, args, argTypes } => .ofOption (builtinV C s b argTypes (args.toList.map e.eval))
  | .call c =>
    match target C s e.eval c with
    | some t => callT C rc s t
    | none => .fail
  | .next it isString => (match nextV s (e.eval it) isString with
    | some l => .ofList l
    | none => .fail)
  | op => .ofOption (Z2m C e.eval s op)
def execOps (rc : Rec) (ops : Array Oper) : List Oper → Env → St → M (Env × St)
  | [], e, s => .ret (e, s)
  | o :: rest, e, s =>
    if Region.wanted o (Z2p ops e) then
      (oneOp C rc e s o.op).bind fun (v, s') => execOps rc ops rest (e.dst o.dst v) s'
    else execOps rc ops rest (e.dst o.dst undef) s
mutual
def veq : Value → Value → Bool
 | .bool a, .bool b => a == b
 | .int k a, .int j b => decide (k = j) && decide (a = b)
 | .float k a, .float j b => decide (k = j) && decide (a = b)
 | .complex k a c, .complex j b d => decide (k = j) && decide (a = b) && decide (c = d)
 | .string a, .string b => decide (a = b)
 | .pointer a, .pointer b => decide (a = b)
 | .slice a n c, .slice b m d => decide (a = b) && decide (n = m) && decide (c = d)
 | .map a, .map b => decide (a = b)
 | .chan a, .chan b => decide (a = b)
 | .func f a c, .func g b d => decide (f = g) && veqA a b && veqA c d
 | .nilFunc, .nilFunc => true
 | .iface t x, .iface u y => decide (t = u) && veq x y
 | .nilIface, .nilIface => true
 | .agg a, .agg b => veqA a b
 | .tuple a, .tuple b => veqA a b
 | _, _ => false
def veqA : Array Value → Array Value → Bool
 | ⟨a⟩, ⟨b⟩ => veqL a b
def veqL : List Value → List Value → Bool
 | [], [] => true
 | x :: xs, y :: ys => veq x y && veqL xs ys
 | _, _ => false
end
def Z2l : Op → Nat
  | .move _ | .assign _ | .pick .. | .build .. | .nilCheck _ | .unOp .. | .makeInterface .. | .makeFunc .. | .slice .. | .fieldAddr .. | .field .. | .indexAddr .. | .index .. | .typeAssert .. | .extract .. => 0
  | .binOp op t _ _ _ => if (eqOp op).isSome && isSl C t then 3 else 2
  | .alloc _ | .box .. | .buildSlice .. | .makeMap .. | .makeSlice .. => 1
  | .load .. | .lookup .. => 2
  | .call { callee := .builtin .len, .. } => 2
  | .call { callee := .builtin .max, .. } | .call { callee := .builtin .min, .. } | .call { callee := .builtin .cap, .. } => 0
  | .convert src dst _ => (match C.ty src, C.ty dst with
    | some { desc := .int _, .. }, _ => 0
    | some { desc := .string, .. }, some { desc := .string, .. } => 0
    | some { desc := .slice _, .. }, some { desc := .string, .. } => 2
    | _, _ => 3)
  | _ => 3
structure Log where
 reads : List (Nat × Op × Env × Value)
 effects : List (Nat × St × St)
def sameAgain (o : Op) (e : Env) (s : St) (v : Value) : Bool :=
 match Z2m C e.eval s o with
 | some (v', _) => veq v v'
 | none => false
def execDraw (rc : Rec) (ops : Array Oper) (masks : Array Nat) : Nat → List Oper → Log → Env → St → M (Env × St)
  | _, [], _, e, s => .ret (e, s)
  | i, o :: rest, L, e, s =>
    if Region.wanted o (Z2p ops e) then
      match oneOp C rc e s o.op with
      | .ret (v, s') =>
        match Z2l C o.op with
        | 0 | 1 => execDraw rc ops masks (i + 1) rest L (e.dst o.dst v) s'
        | 2 =>
          if L.effects.all fun x => (masks.getD i 0).testBit x.1 || sameAgain C o.op e x.2.1 v then
            execDraw rc ops masks (i + 1) rest { L with reads := (i, o.op, e, v) :: L.reads } (e.dst o.dst v) s' else .fail
        | _ =>
          if (L.effects.all fun x => (masks.getD i 0).testBit x.1) && (L.reads.all fun x => (masks.getD i 0).testBit x.1 || sameAgain C x.2.1 x.2.2.1 s' x.2.2.2) then
            execDraw rc ops masks (i + 1) rest { L with effects := (i, s, s') :: L.effects } (e.dst o.dst v) s' else .fail
      | _ => .fail
    else execDraw rc ops masks (i + 1) rest L (e.dst o.dst undef) s
def resultsV (s : St) (e : Env) : List ResultVar → Option (List Value)
  | [] => some []
  | .tmp t :: r => (resultsV s e r).map (e.get t :: ·)
  | .cell a t :: r => match loadV C s t (e.get a), resultsV s e r with
    | some v, some vs => some (v :: vs)
    | _, _ => none
def oneOrTuple : List Value → Value
 | [v] => v
 | vs => .tuple vs.toArray
def callValue (f : Value) (args : List Value) : Option Task :=
 match f with
 | .func (.func g) first captured => some (.call g (first.toList ++ args ++ captured.toList))
 | .func (.yield l) first _ => some (.round l (first.toList ++ args))
 | _ => none
def outOf : Res × St → M (Out × Env × St)
 | (.out o e, s) => .ret (o, e, s)
 | _ => .fail
def loopEnd (l : Nat) (e : Env) : Res × St → M (Out × Env × St)
  | (.val _, s) =>
    match s.get l with
    | some (.loop lp) =>
      match lp.state with
      | .busy => .fail
      | _ =>
        match lp.pending with
        | none => .ret (.normal, e, s.set l (.loop { lp with state := .exhausted }))
        | some .ret => .ret (.ret, e, s.set l (.loop { lp with state := .exhausted }))
        | some (.exit id) => .ret (.exit id, e, s.set l (.loop { lp with state := .exhausted }))
        | some _ => .fail
    | _ => .fail
  | _ => .fail
def execC (rc : Rec) (fid : FuncId) : Code → Env → St → M (Out × Env × St)
  | .skip, e, s => .ret (.normal, e, s)
  | .label _, e, s => .ret (.normal, e, s)
  | .region _ ops draw, e, s =>
    (bif draw then execDraw C rc ops (Region.before ops) 0 ops.toList ⟨[], []⟩ e s else execOps C rc ops ops.toList e s).bind fun (e', s') => .ret (.normal, e', s')
  | .seq a b, e, s =>
    (execC rc fid a e s).bind fun (o, e1, s1) => match o with
      | .normal => execC rc fid b e1 s1
      | o => .ret (o, e1, s1)
  | .cond c a b, e, s =>
    match e.eval c with
    | .bool true => execC rc fid a e s
    | .bool false => execC rc fid b e s
    | _ => .fail
  | .block id c, e, s =>
    (execC rc fid c e s).bind fun (o, e1, s1) => match o with
      | .exit i => .ret (if i = id then .normal else .exit i, e1, s1)
      | o => .ret (o, e1, s1)
  | .loop c, e, s =>
    (execC rc fid c e s).bind fun (o, e1, s1) => match o with
      | .normal => (rc (.code fid (.loop c) e1) s1).bind outOf
      | o => .ret (o, e1, s1)
  | .rangeFunc f params assign body, e, s =>
    match callValue (e.eval f) [.func (.yield s.n) #[] #[]] with
    | none => .fail
    | some t => (rc t (s.new (.loop { state := .ready, pending := none, fn := fid, tmps := e, params, assign, body }))).bind (loopEnd s.n e)
  | .exit id, e, s => .ret (.exit id, e, s)
  | .scope c, e, s => execC rc fid c e s
  | .ret, e, s => .ret (.ret, e, s)
  | .goto _, _, _ => .fail
  | .refuse _, _, _ => .fail
def Env.putA : List Tmp → List Value → Env → Env
 | t :: ts, v :: vs, e => Env.putA ts vs (e.put t v)
 | _, _, e => e
def callEnd (fn : Func) : Out × Env × St → M (Res × St)
  | (.exit _, _, _) => .fail
  | (_, e, s) => match resultsV C s e fn.results.toList with
    | some vs => .ret (.val (oneOrTuple vs), s)
    | none => .fail
def jumpOf : Out → Option Code
 | .normal => none
 | .ret => some .ret
 | .exit id => some (.exit id)
def roundEnd (l : Nat) : Out × Env × St → M (Res × St)
  | (o, _, s) =>
    match s.get l with
    | some (.loop lp) => .ret (.val (.bool (jumpOf o).isNone), s.set l (.loop { lp with state := if (jumpOf o).isNone then .ready else .done, pending := jumpOf o }))
    | _ => .fail
def roundBody (rc : Rec) (l : Nat) (lp : ALoop) : Out × Env × St → M (Res × St)
  | (.normal, e, s) =>
    match s.get l with
    | some (.loop lp1) =>
      match lp1.state with
      | .ready => (execC C rc lp.fn lp.body e (s.set l (.loop { lp1 with state := .busy }))).bind (roundEnd l)
      | _ => .fail
    | _ => .fail
  | _ => .fail
def istep (rc : Rec) : Rec
  | .code fid c e, s => (execC C rc fid c e s).bind fun (o, e', s') => .ret (.out o e', s')
  | .call f args, s =>
    match C.fn f with
    | some fn =>
      match fn.body with
      | some c => (execC C rc f c (Env.start fn.ntmps args) s).bind (callEnd C fn)
      | none => .fail
    | none => .fail
  | .round l args, s =>
    match s.get l with
    | some (.loop lp) =>
      if args.length = lp.params.size then (execC C rc lp.fn lp.assign (Env.putA lp.params.toList args lp.tmps) s).bind (roundBody C rc l lp)
      else .fail
    | _ => .fail
def run : Nat → Rec
 | 0 => fun _ _ => .fail
 | n + 1 => istep C (run n)
def St.empty (n : Nat) : St := { h := .e, n := n }
def mkTy (P : Program) (t : TypeId) : Option Ty :=
 match P.info? t, P.underlying t with
 | some i, some d => some { desc := d, size := i.size, bytes := i.bytes, zero := i.zero, methods := i.methods, cmp := i.comparable }
 | _, _ => none
end Go.Ai
/-
  Data as numbers: tokens bear what they stand for.
-/
namespace Go.Ai
def natL : List Nat → Nat
 | [] => 0
 | x :: l => 2 ^ x * (2 * natL l + 1)
theorem pow_odd : ∀ {a b x y : Nat}, 2 ^ a * (2 * x + 1) = 2 ^ b * (2 * y + 1) → a = b ∧ x = y
  | 0, 0, x, y, h => ⟨rfl, by simp at h; omega⟩
  | 0, b + 1, x, y, h => Z1j
  | a + 1, 0, x, y, h => Z1j
  | a + 1, b + 1, x, y, h => by
    rw [Nat.pow_succ, Nat.pow_succ, Nat.mul_right_comm, Nat.mul_right_comm (2 ^ b)] at h;obtain ⟨h1, h2⟩ := pow_odd (Nat.eq_of_mul_eq_mul_right Z4 h);exact ⟨Z4, h2⟩
theorem pow_pos_odd (a x : Nat) : 2 ^ a * (2 * x + 1) ≠ 0 := Nat.ne_of_gt (Nat.mul_pos (Nat.pow_pos Z4) Z4)
theorem natL_inj : ∀ {a b : List Nat}, natL a = natL b → a = b
  | [], [], _ => rfl
  | [], y :: b, h => absurd h.symm (pow_pos_odd _ _)
  | x :: a, [], h => absurd h (pow_pos_odd _ _)
  | x :: a, y :: b, h => by
    obtain ⟨rfl, h2⟩ := pow_odd h;rw [natL_inj h2]
theorem map_inj {α γ : Type} {f : α → γ} (hf : ∀ x y, f x = f y → x = y) : ∀ {a b : List α}, a.map f = b.map f → a = b
  | [], [], _ => rfl
  | [], _ :: _, h => Z02
  | _ :: _, [], h => Z02
  | x :: a, y :: b, h => by
    simp only [List.map_cons, List.cons.injEq] at h;rw [hf _ _ h.1, map_inj hf h.2]
def ebool (b : Bool) : Nat := if b then 1 else 0
theorem ebool_inj {a b : Bool} (h : ebool a = ebool b) : a = b := Z1f
def eint : Int → Nat
 | .ofNat n => 2 * n
 | .negSucc n => 2 * n + 1
theorem eint_inj {a b : Int} (h : eint a = eint b) : a = b := by
 cases a <;> cases b <;> simp only [eint] at h
 ·rename_i x y; rw [show x = y from Z4]
 ·omega
 ·omega
 ·rename_i x y; rw [show x = y from Z4]
def ekind : IntKind → Nat
 | .i8 => 0 | .i16 => 1 | .i32 => 2 | .i64 => 3 | .u8 => 4 | .u16 => 5 | .u32 => 6 | .u64 => 7
theorem ekind_inj {a b : IntKind} (h : ekind a = ekind b) : a = b := Z1f
def efk : FloatKind → Nat
 | .f32 => 0 | .f64 => 1
theorem efk_inj {a b : FloatKind} (h : efk a = efk b) : a = b := Z1f
def estr (s : String) : Nat := natL (s.toList.map Char.toNat)
theorem estr_inj {a b : String} (h : estr a = estr b) : a = b := by
 have := map_inj (fun x y h => Char.ext (UInt32.toNat_inj.1 h)) (natL_inj h);exact String.toList_inj.1 this
def ebytes (s : ByteArray) : Nat := natL (s.data.toList.map UInt8.toNat)
theorem ebytes_inj {a b : ByteArray} (h : ebytes a = ebytes b) : a = b := by
 have := map_inj (fun x y h => UInt8.toNat_inj.1 h) (natL_inj h);cases a; cases b;simp only at this;rw [Array.toList_inj.1 this]
def eopt : Option Nat → Nat
 | none => 0
 | some n => n + 1
theorem eopt_inj {a b : Option Nat} (h : eopt a = eopt b) : a = b := by
 cases a <;> cases b <;> simp only [eopt] at h <;> first | rfl | (rw [Nat.succ.inj h]) | cases h
def eaddr : Option Addr → Nat
 | none => 0
 | some a => natL [a.block, a.off, eopt a.spot]
theorem eaddr_inj {a b : Option Addr} (h : eaddr a = eaddr b) : a = b := by
  cases a with
  | none => cases b with
    | none => rfl
    | some b => exact absurd h.symm (pow_pos_odd _ _)
  | some a => cases b with
    | none => exact absurd h (pow_pos_odd _ _)
    | some b =>
      have := natL_inj h;simp only [List.cons.injEq, and_true] at this;obtain ⟨h1, h2, h3⟩ := this;cases a; cases b;simp only at h1 h2 h3;rw [h1, h2, eopt_inj h3]
def estep (f : FieldStep) : Nat := natL [f.struct, f.index, ebool f.deref]
theorem estep_inj {a b : FieldStep} (h : estep a = estep b) : a = b := by
 have := natL_inj h;simp only [List.cons.injEq, and_true] at this;obtain ⟨h1, h2, h3⟩ := this;cases a; cases b;simp only at h1 h2 h3;rw [h1, h2, ebool_inj h3]
def efn : Fn → Nat
 | .func f => natL [0, f]
 | .method s => natL [1, estr s]
 | .methodOf t s => natL [2, t, estr s]
 | .via t p f b => natL [3, t, natL (p.toList.map estep), f, ebool b]
 | .yield l => natL [4, l]
theorem efn_inj {a b : Fn} (h : efn a = efn b) : a = b := by
 cases a <;> cases b <;> (have h := natL_inj h; simp at h)
 ·rw [h]
 ·rw [estr_inj h]
 ·rw [h.1, estr_inj h.2]
 ·rw [h.1, Array.toList_inj.1 (map_inj (fun _ _ => estep_inj) (natL_inj h.2.1)), h.2.2.1, ebool_inj h.2.2.2]
 ·rw [h]
mutual
def ev : Value → Nat
 | .bool b => natL [0, ebool b]
 | .int k n => natL [1, ekind k, eint n]
 | .float k n => natL [2, efk k, n]
 | .complex k a b => natL [3, efk k, a, b]
 | .string s => natL [4, ebytes s]
 | .pointer a => natL [5, eaddr a]
 | .slice a n c => natL [6, eaddr a, n, c]
 | .map m => natL [7, eopt m]
 | .chan m => natL [8, eopt m]
 | .func f a c => natL [9, efn f, evA a, evA c]
 | .nilFunc => natL [10]
 | .iface t v => natL [11, t, ev v]
 | .nilIface => natL [12]
 | .agg a => natL [13, evA a]
 | .tuple a => natL [14, evA a]
def evA : Array Value → Nat
 | ⟨l⟩ => evL l
def evL : List Value → Nat
 | [] => 0
 | v :: l => 2 ^ ev v * (2 * evL l + 1)
end
mutual
theorem ev_inj : ∀ {v v' : Value}, ev v = ev v' → v = v'
  | .bool b, v', h => by
    cases v' <;> (simp only [ev] at h; have h := natL_inj h; simp at h)
    rw [ebool_inj h]
  | .int k n, v', h => by
    cases v' <;> (simp only [ev] at h; have h := natL_inj h; simp at h)
    rw [ekind_inj h.1, eint_inj h.2]
  | .float k n, v', h => by
    cases v' <;> (simp only [ev] at h; have h := natL_inj h; simp at h)
    rw [efk_inj h.1, h.2]
  | .complex k a b, v', h => by
    cases v' <;> (simp only [ev] at h; have h := natL_inj h; simp at h)
    rw [efk_inj h.1, h.2.1, h.2.2]
  | .string s, v', h => by
    cases v' <;> (simp only [ev] at h; have h := natL_inj h; simp at h)
    rw [ebytes_inj h]
  | .pointer a, v', h => by
    cases v' <;> (simp only [ev] at h; have h := natL_inj h; simp at h)
    rw [eaddr_inj h]
  | .slice a n c, v', h => by
    cases v' <;> (simp only [ev] at h; have h := natL_inj h; simp at h)
    rw [eaddr_inj h.1, h.2.1, h.2.2]
  | .map m, v', h => by
    cases v' <;> (simp only [ev] at h; have h := natL_inj h; simp at h)
    rw [eopt_inj h]
  | .chan m, v', h => by
    cases v' <;> (simp only [ev] at h; have h := natL_inj h; simp at h)
    rw [eopt_inj h]
  | .func f a c, v', h => by
    cases v' <;> (simp only [ev] at h; have h := natL_inj h; simp at h)
    rw [efn_inj h.1, evA_inj h.2.1, evA_inj h.2.2]
  | .nilFunc, v', h => by
    cases v' <;> first | rfl | (simp only [ev] at h; have h := natL_inj h; simp at h)
  | .iface t v, v', h => by
    cases v' <;> (simp only [ev] at h; have h := natL_inj h; simp at h)
    rw [h.1, ev_inj h.2]
  | .nilIface, v', h => by
    cases v' <;> first | rfl | (simp only [ev] at h; have h := natL_inj h; simp at h)
  | .agg a, v', h => by
    cases v' <;> (simp only [ev] at h; have h := natL_inj h; simp at h)
    rw [evA_inj h]
  | .tuple a, v', h => by
    cases v' <;> (simp only [ev] at h; have h := natL_inj h; simp at h)
    rw [evA_inj h]
theorem evA_inj : ∀ {a b : Array Value}, evA a = evA b → a = b
  | ⟨l⟩, ⟨m⟩, h => by
    unfold evA at h
    rw [evL_inj h]
theorem evL_inj : ∀ {a b : List Value}, evL a = evL b → a = b
  | [], [], _ => rfl
  | [], y :: b, h => by unfold evL at h; exact absurd h.symm (pow_pos_odd _ _)
  | x :: a, [], h => by unfold evL at h; exact absurd h (pow_pos_odd _ _)
  | x :: a, y :: b, h => by
    unfold evL at h
    obtain ⟨h1, h2⟩ := pow_odd h
    rw [ev_inj h1, evL_inj h2]
end
def codeF : Inl → Nat
 | .slice n sz cs sp => natL [0, n, sz, evL cs, evL sp]
 | .bare => natL [1]
 | .ptr cs => natL [2, evL cs]
theorem codeF_inj {a b : Inl} (h : codeF a = codeF b) : a = b := by
 cases a <;> cases b <;> first | rfl | (simp only [codeF] at h; have h := natL_inj h; simp at h)
 ·rw [h.1, h.2.1, evL_inj h.2.2.1, evL_inj h.2.2.2]
 ·rw [evL_inj h]
theorem codeF_ne (a : Inl) : codeF a ≠ 0 := by cases a <;> exact pow_pos_odd _ _
theorem code_ex : ∃ f : Inl → Nat, (∀ a b, f a = f b → a = b) ∧ ∀ a, f a ≠ 0 := ⟨codeF, fun _ _ => codeF_inj, codeF_ne⟩
noncomputable def code : Inl → Nat := Classical.choose code_ex
theorem code_inj {a b : Inl} (h : code a = code b) : a = b := (Classical.choose_spec code_ex).1 a b h
theorem code_ne (a : Inl) : code a ≠ 0 := (Classical.choose_spec code_ex).2 a
open Classical in
noncomputable def dec (c : Nat) : Option Inl := if h : ∃ a, code a = c then some h.choose else none
theorem dec_code (a : Inl) : dec (code a) = some a := by
 have h : ∃ b, code b = code a := ⟨a, rfl⟩;unfold dec;rw [dif_pos h, code_inj h.choose_spec]
theorem dec_zero : dec 0 = none := by
 unfold dec;rw [dif_neg];rintro ⟨a, h⟩;exact code_ne a h
end Go.Ai