/- A machine on plain data for the code of the program, and what it means in memory. No statement is proved here. -/
import GoSem.Claim
import Derived.Orders
import Derived.Lib.ItoaNum
import Derived.Lib.Join
import Derived.Lib.Bytealg
import Derived.Below
import Derived.Laws.Tables
import Derived.Laws.IdiomCopy
import Derived.Laws.StructEq
import Derived.Lib.ConvBytes
import Derived.Laws.BytesString
set_option linter.unusedVariables false
set_option linter.unusedSimpArgs false

section
namespace Go.Vsi
inductive Ty where
 | int (k : IntKind) | bool | str | unit
 | sl (e : TypeId) (t : Ty) | prod (a b : Ty) | ptr (e : TypeId) (t : Ty)
 deriving DecidableEq, Inhabited
abbrev Ty.T : Ty -> Type
 | .int _ => Int
 | .bool => Bool
 | .str => List UInt8
 | .unit => Unit
 | .sl _ t => List t.T
 | .prod a b => a.T × b.T
 | .ptr _ t => t.T
def Ty.sz : Ty -> Nat
 | .prod a b => a.sz + b.sz
 | .unit => 0
 | _ => 1
def Ty.dflt : (t : Ty) -> t.T
 | .int _ => (0 : Int)
 | .bool => false
 | .str => ([] : List UInt8)
 | .unit => ()
 | .sl _ _ => []
 | .prod a b => (a.dflt, b.dflt)
 | .ptr _ t => t.dflt
def Ty.refs : Ty -> Bool
 | .prod a b => a.refs || b.refs
 | .sl _ _ => true
 | .ptr _ _ => true
 | _ => false
def xG {t u : Ty} (h : t = u) (x : t.T) : u.T := h ▸ x
structure Row where
 e : TypeId
 t : Ty
 l : List t.T
 m : Nat
 hole : Option (Nat × Nat) := none
 mp : List t.T := []
def zF : Nat := 1000000007
def wT : Nat := 1000000008
def Row.isMap (r : Row) : Bool := match r.hole with
 | some (_, off) => off == zF
 | none => false
inductive CV where
 | undef
 | int (k : IntKind) (n : Int)
 | bool (b : Bool)
 | str (s : List UInt8)
 | emp (e : TypeId) (t : Ty)
 | dat (e : TypeId) (t : Ty) (l : List t.T)
 | own (d : Nat)
 | vw (d : Nat) (lo hi : Nat)
 | nref (d : Nat) (i off : Nat)
 | pbox (b : Nat) (off : Nat)
 | pelt (d : Nat) (i off : Nat)
 | pn (d : Nat) (i off j off2 : Nat)
 | pdat (e : TypeId) (t : Ty) (x : t.T) (off : Nat)
 | fn (f : FuncId) (sh : List (Bool × Nat)) (n : Nat) (cs : List CV)
 | row (r : Row)
 | kon (v : Value)
 | boxr (e : TypeId) (cs : List CV)
 deriving Inhabited
inductive SV where
 | undef
 | c (x : CV)
 | agg (xs : List CV)
 | tup (xs : List SV)
 | clo (f : FuncId) (n : Nat) (xs : List CV)
 deriving Inhabited
structure Box where
 e : TypeId
 cs : List CV
 ro : Bool
 it : Bool := false
structure St where
 slots : List (Nat × SV)
 rows : List (Nat × Row)
 boxes : List (Nat × Box)
 lentR : List Nat := []
 lentB : List Nat := []
structure TI where
 isAgg : Bool
 size : Nat
 bytes : Nat
 zero : List CV
 ty : Option Ty
 elem : Option TypeId
 fields : List (Nat × TypeId)
 eqc : List Ty := []
 mpt : Option (TypeId × TypeId) := none
def TI.sty (i : TI) : Option Ty := if i.isAgg then none else i.ty
inductive Co where
 | own (m : Nat)
 | dat
 | fz
structure qPQ where
 ks : List Nat
 cos : List (Nat × Nat × Co)
structure Li where
 head : qPQ
 exits : List (Nat × qPQ)
 ret : qPQ
structure Fi where
 modes : List Nat
 rets : List (Option Nat)
 loops : List (Nat × Li)
structure Ctx where
 ti : TypeId -> Option TI
 fs : FuncId -> Option Func
 fi : FuncId -> Fi
def qL {α : Type} (k : Nat) : List (Nat × α) -> Option α
 | [] => none
 | (j, a) :: r => if j = k then some a else qL k r
def put {α : Type} (k : Nat) (a : α) : List (Nat × α) -> List (Nat × α)
 | [] => [(k, a)]
 | (j, b) :: r => if j = k then (k, a) :: r else if k < j then (k, a) :: (j, b) :: r else (j, b) :: put k a r
def del {α : Type} (k : Nat) (l : List (Nat × α)) : List (Nat × α) := l.filter fun x => !(x.1 == k)
def nth (t : Ty) (l : List t.T) (i : Nat) : t.T := l.getD i t.dflt
def qFi {α β : Type} [DecidableEq α] : List (α × β) -> α -> Option β
 | [], _ => none
 | x :: r, k => if x.1 = k then some x.2 else qFi r k
def qIi {α β : Type} [DecidableEq α] : List (α × β) -> α -> β -> List (α × β)
 | [], k, v => [(k, v)]
 | x :: r, k, v => if x.1 = k then (k, v) :: r else x :: qIi r k v
def srt (l : List Int) : List Int := l.mergeSort fun x y => decide (x <= y)
def rd {α : Type} [Inhabited α] (l : List α) (i : Nat) : α := l.getD i default
def Ty.one : (t : Ty) -> t.T -> Option CV
 | .int k, n => some (.int k n)
 | .bool, b => some (.bool b)
 | .str, s => some (.str s)
 | .sl e t, l => some (.dat e t l)
 | .ptr e t, x => some (.pdat e t x 0)
 | .unit, _ => none
 | .prod _ _, _ => none
def Ty.cells : (t : Ty) -> t.T -> List CV
 | .prod a b, p => a.cells p.1 ++ b.cells p.2
 | .unit, _ => []
 | .int k, n => [.int k n]
 | .bool, b => [.bool b]
 | .str, s => [.str s]
 | .sl e t, l => [.dat e t l]
 | .ptr e t, x => [.pdat e t x 0]
def Ty.slAt : (t : Ty) -> t.T -> Nat -> Option ((e : TypeId) × (u : Ty) × List u.T)
 | .prod a b, p, off => if off < a.sz then a.slAt p.1 off else b.slAt p.2 (off - a.sz)
 | .sl e t, l, off => if off = 0 then some ⟨e, t, l⟩ else none
 | _, _, _ => none
def Ty.slSet : (t : Ty) -> t.T -> Nat -> (e : TypeId) -> (u : Ty) -> List u.T -> Option t.T
 | .prod a b, p, off, e, u, l => if off < a.sz then (a.slSet p.1 off e u l).map fun x => (x, p.2) else (b.slSet p.2 (off - a.sz) e u l).map fun y => (p.1, y)
 | .sl e t, _, off, e', u, l => if off = 0 /\ e' = e then (if h : u = t then some (xG (t := .sl e u) (u := .sl e t) (by rw [h]) l) else none) else none
 | _, _, _, _, _, _ => none
def Ty.pack : (t : Ty) -> List CV -> Option (t.T × List CV)
 | .prod a b, cs => match a.pack cs with
  | some (x, r) => match b.pack r with
   | some (y, r') => some ((x, y), r')
   | none => none
  | none => none
 | .unit, cs => some ((), cs)
 | .int k, .int k' n :: r => if k' = k then some (n, r) else none
 | .bool, .bool b :: r => some (b, r)
 | .str, .str s :: r => some (s, r)
 | .sl e t, .dat e' t' l :: r => if e' = e then (if h : t' = t then some (xG (t := .sl e t') (u := .sl e t) (by rw [h]) l, r) else none) else none
 | .sl e t, .emp e' t' :: r => if e' = e /\ t' = t then some ([], r) else none
 | .ptr e t, .pdat e' t' x 0 :: r => if e' = e then (if h : t' = t then some (xG (t := t') (u := t) h x, r) else none) else none
 | _, _ => none
def Ty.pack1 (t : Ty) (cs : List CV) : Option t.T := match t.pack cs with
 | some (x, []) => some x
 | _ => none
def Ty.setCells (t : Ty) (x : t.T) (off : Nat) (cs : List CV) : Option t.T :=
 t.pack1 ((t.cells x).take off ++ cs ++ (t.cells x).drop (off + cs.length))
def CV.ty : CV -> Option Ty
 | .int k _ => some (.int k)
 | .bool _ => some .bool
 | .str _ => some .str
 | .dat e t _ => some (.sl e t)
 | .emp e t => some (.sl e t)
 | .pdat e t _ 0 => some (.ptr e t)
 | _ => none
def qQv : List CV -> Option Ty
 | [] => some .unit
 | [c] => c.ty
 | c :: r => match c.ty, qQv r with
  | some a, some b => some (.prod a b)
  | _, _ => none
def St.row? (st : St) (d : Nat) : Option Row := match qL d st.rows with
 | some r => match r.hole with
  | none => some r
  | some _ => none
 | none => none
def St.rowM? (st : St) (d : Nat) : Option Row := match qL d st.rows with
 | some r => if r.hole.isNone || r.isMap then some r else none
 | none => none
def xL (st : St) : CV -> Option ((e : TypeId) × (t : Ty) × List t.T)
 | .dat e t l => some ⟨e, t, l⟩
 | .emp e t => some ⟨e, t, []⟩
 | .own d => match st.row? d with
  | some r => some ⟨r.e, r.t, r.l⟩
  | none => none
 | .vw d lo hi => match st.row? d with
  | some r => some ⟨r.e, r.t, (r.l.take hi).drop lo⟩
  | none => none
 | .nref d i off => match st.row? d with
  | some r => r.t.slAt (nth r.t r.l i) off
  | none => none
 | _ => none
abbrev Rd3 (α : Type) := Option (α × List (Nat × Nat) × List Nat)
def qAq (f : CV -> Rd3 CV) : List CV -> Rd3 (List CV)
 | [] => some ([], [], [])
 | x :: r => match f x with
  | some (y, ds, bs) => match qAq f r with
   | some (ys, ds', bs') => some (y :: ys, ds ++ ds', bs ++ bs')
   | none => none
  | none => none
def St.box? (st : St) (b : Nat) : Option Box := match qL b st.boxes with
 | some x => if x.it = true then none else some x
 | none => none
def rdC (st : St) : Nat -> CV -> Rd3 CV
 | 0, _ => none
 | n + 1, x => match x with
  | .int .. | .bool _ | .str _ | .dat .. | .pdat .. => some (x, [], [])
  | .emp e t => some (.dat e t [], [], [])
  | .own d | .vw d _ _ => match xL st x with
   | some s => some (.dat s.1 s.2.1 s.2.2, [(d, 0)], [])
   | none => none
  | .nref d _ _ => match xL st x with
   | some s => some (.dat s.1 s.2.1 s.2.2, [(d, 1)], [])
   | none => none
  | .pelt d i off => match st.row? d with
   | some r => some (.pdat r.e r.t (nth r.t r.l i) off, [(d, 0)], [])
   | none => none
  | .pn d i off j off2 => match xL st (.nref d i off) with
   | some s => some (.pdat s.1 s.2.1 (nth s.2.1 s.2.2 j) off2, [(d, 1)], [])
   | none => none
  | .pbox b off => match st.box? b with
   | some bx => match qAq (rdC st n) bx.cs with
    | some (cs, ds, bs) => match qQv cs with
     | some t => match t.pack1 cs with
      | some v => some (.pdat bx.e t v off, ds, b :: bs)
      | none => none
     | none => none
    | none => none
   | none => none
  | .fn f sh k cs => match qAq (rdC st n) cs with
   | some (cs', ds, bs) => some (.fn f sh k cs', ds, bs)
   | none => none
  | .kon v => some (.kon v, [], [])
  | .row _ | .boxr .. | .undef => none
def rdS (st : St) : SV -> Rd3 SV
 | .c x => match rdC st 4 x with
  | some (y, ds, bs) => some (.c y, ds, bs)
  | none => none
 | .agg xs => match qAq (rdC st 4) xs with
  | some (ys, ds, bs) => some (.agg ys, ds, bs)
  | none => none
 | _ => none
def CV.speaks (d : Nat) : CV -> Bool
 | .own d' | .vw d' _ _ | .nref d' _ _ | .pelt d' _ _ | .pn d' _ _ _ _ => d' == d
 | _ => false
def CV.nested (d : Nat) : CV -> Bool
 | .nref d' _ _ | .pn d' _ _ _ _ => d' == d
 | _ => false
def CV.pts (b : Nat) : CV -> Bool
 | .pbox b' _ => b' == b
 | .fn _ _ _ cs => cs.any fun | .pbox b' _ => b' == b | .fn .. => true | _ => false
 | _ => false
def CV.says (p : CV -> Bool) (x : CV) : Bool := p x || match x with | .fn _ _ _ cs => cs.any p | _ => false
def CV.kill (p : CV -> Bool) (x : CV) : CV := if x.says p then .undef else x
def SV.kill1 (p : CV -> Bool) : SV -> SV
 | .c x => .c (x.kill p)
 | .agg xs => .agg (xs.map (CV.kill p))
 | x => x
def SV.kill (p : CV -> Bool) : SV -> SV
 | .tup xs => .tup (xs.map (SV.kill1 p))
 | x => x.kill1 p
def St.kill (st : St) (p : CV -> Bool) : St :=
 { st with slots := st.slots.map (fun s => (s.1, s.2.kill p)), boxes := st.boxes.map fun b => (b.1, { b.2 with cs := b.2.cs.map (CV.kill p) }) }
def St.dropRow (st : St) (d : Nat) : St := { st.kill (CV.speaks d) with rows := del d st.rows, lentR := st.lentR.filter fun x => !(x == d) }
def St.addRow (st : St) (d : Nat) (r : Row) : St := { st.kill (CV.speaks d) with rows := put d r st.rows, lentR := st.lentR.filter fun x => !(x == d) }
def CV.within (lo hi : Nat) : CV -> Bool
 | .own d | .vw d _ _ | .nref d _ _ | .pelt d _ _ | .pn d _ _ _ _ => decide (lo <= d) && decide (d < hi)
 | _ => false
def xM (st : St) (base : Nat) : Nat -> List CV -> List CV × St
 | _, [] => ([], st)
 | j, .emp e t :: xs =>
  let r := xM (st.addRow (base + j) { e := e, t := t, l := [], m := 99 }) base (j + 1) xs
  (.own (base + j) :: r.1.map (CV.kill (CV.within (base + j) (base + j + 1))), r.2)
 | j, x :: xs =>
  let r := xM st base (j + 1) xs
  (x.kill (CV.within (base + j + 1) (base + j + 1 + xs.length)) :: r.1, r.2)
def qS (b : Nat) : Nat := 1000000 + 32 * b
def St.addBox (st : St) (b : Nat) (x : Box) : St :=
 let k := st.kill (CV.pts b)
 let r := xM { k with boxes := del b k.boxes, lentB := k.lentB.filter fun y => !(y == b) } (qS b) 0 (x.cs.map (CV.kill (CV.pts b)))
 { r.2 with boxes := put b { x with cs := r.1 } r.2.boxes }
def St.set (st : St) (s : Nat) (v : SV) : St := { st with slots := put s v st.slots }
def qGr (op : BinOp) (k : IntKind) (x y : Int) : Int :=
 let a := BitVec.ofInt k.bits x
 let b := BitVec.ofInt k.bits y
 match op with
 | .and => k.wrap (a &&& b).toNat
 | .or => k.wrap (a ||| b).toNat
 | .xor => k.wrap (a ^^^ b).toNat
 | _ => k.wrap (a &&& ~~~b).toNat
structure R1 where
 g : Bool
 v : SV
 st : St
def lit : Value -> Option SV
 | .int k n => some (.c (.int k n))
 | .bool b => some (.c (.bool b))
 | .string s => some (.c (.str s.data.toList))
 | .func f first caps => if first.size = 0 /\ caps.size = 0 then (match f with | .func g => some (.c (.fn g [] 0 [])) | _ => none) else none
 | .pointer none => some (.c (.kon (.pointer none)))
 | .nilFunc => some (.c (.kon .nilFunc))
 | .nilIface => some (.c (.kon .nilIface))
 | .map none => some (.c (.kon (.map none)))
 | _ => none
def opv (st : St) : Operand -> Option SV
 | .tmp t => qL t st.slots
 | .const v => lit v
 | .func f => some (.c (.fn f [] 0 []))
 | .global _ => none
def qJL : Operand -> Bool
 | .const (.slice none 0 0) => true
 | _ => false
def ok1 (st : St) (v : SV) : Option R1 := some ⟨true, v, st⟩
def qHS (op : BinOp) (k : IntKind) (x y : Int) : Option (Bool × CV) := match op with
 | .add => some (true, .int k (k.wrap (x + y)))
 | .sub => some (true, .int k (k.wrap (x - y)))
 | .mul => some (true, .int k (k.wrap (x * y)))
 | .quo => some (!(decide (y = 0)), .int k (k.wrap (x.tdiv y)))
 | .rem => some (!(decide (y = 0)), .int k (x.tmod y))
 | .and | .or | .xor | .andNot => some (true, .int k (qGr op k x y))
 | .eql => some (true, .bool (decide (x = y)))
 | .neq => some (true, .bool (!decide (x = y)))
 | .lss => some (true, .bool (decide (x < y)))
 | .leq => some (true, .bool (decide (x <= y)))
 | .gtr => some (true, .bool (decide (x > y)))
 | .geq => some (true, .bool (decide (x >= y)))
 | _ => none
def qCn (op : BinOp) (k : IntKind) (x y : Int) : Option (Bool × CV) := match op with
 | .shl => some (decide (0 <= y), .int k (k.wrap (x * 2 ^ (Nat.min y.toNat k.bits))))
 | .shr => some (decide (0 <= y), .int k (x.fdiv (2 ^ (Nat.min y.toNat k.bits))))
 | _ => none
def qHR (op : BinOp) (x y : List UInt8) : Option (Bool × CV) := match op with
 | .add => some (decide (x.length + y.length <= 9223372036854775807), .str (x ++ y))
 | .eql => some (true, .bool (x == y))
 | .neq => some (true, .bool (!(x == y)))
 | .lss => some (true, .bool (Op.bytesLess x y))
 | .leq => some (true, .bool (Op.bytesLess x y || x == y))
 | .gtr => some (true, .bool (!(Op.bytesLess x y || x == y)))
 | .geq => some (true, .bool (!Op.bytesLess x y))
 | _ => none
def qFU (op : BinOp) : CV -> CV -> Option (Bool × CV)
 | .int k x, .int k' y => match op with
  | .shl | .shr => qCn op k x y
  | _ => if k = k' then qHS op k x y else none
 | .bool a, .bool b => match op with
  | .eql => some (true, .bool (a == b))
  | .neq => some (true, .bool (!(a == b)))
  | _ => none
 | .str a, .str b => qHR op a b
 | _, _ => none
def eqC : Ty -> CV -> CV -> Option Bool
 | .int _, .int k a, .int k' b => if k = k' then some (decide (a = b)) else none
 | .bool, .bool a, .bool b => some (a == b)
 | .str, .str a, .str b => some (a == b)
 | _, _, _ => none
def yJ : List Ty -> List CV -> List CV -> Option Bool
 | [], _, _ => none
 | u :: us, x :: xs, y :: ys => match us with
  | [] => if xs.isEmpty && ys.isEmpty then eqC u x y else none
  | _ :: _ => match eqC u x y, yJ us xs ys with
   | some a, some b => some (a && b)
   | _, _ => none
 | _, _, _ => none
def qIP (op : UnOp) : CV -> Option CV
 | .int k n => match op with
  | .neg => some (.int k (k.wrap (0 - n)))
  | .xor => some (.int k (qGr .xor k (if k.signed then -1 else k.max) n))
  | _ => none
 | .bool b => match op with
  | .not => some (.bool (!b))
  | _ => none
 | _ => none
section
variable (C : Ctx)
def qH9 (t : TypeId) : Option (TypeId × TI × Ty) := match C.ti t with
 | some i => match i.elem with
  | some e => match C.ti e with
   | some ei => match ei.ty with
    | some u => some (e, ei, u)
    | none => none
   | none => none
  | none => none
 | none => none
def qLF (st : St) (t : TypeId) (x : Operand) : Option SV := if qJL x then (match qH9 C t with
  | some (e, _, u) => some (.c (.emp e u))
  | none => none)
 else opv st x
def qGh (st : St) : List TypeId -> List Operand -> Option (List SV)
 | _, [] => some []
 | ts, x :: r => match qLF C st (ts.headD 0) x, qGh st (ts.drop 1) r with
  | some v, some vs => some (v :: vs)
  | _, _ => none
def qCv (t : TypeId) : Option (Bool × Nat) := (C.ti t).map fun i => (i.isAgg, i.size)
def mkV (t : TypeId) (cs : List CV) : Option SV := match qCv C t with
 | some (true, n) => if cs.length = n then some (.agg cs) else none
 | some (false, _) => match cs with
  | [x] => some (.c x)
  | _ => none
 | none => none
def SV.cells? : SV -> Option (List CV)
 | .c x => some [x]
 | .agg xs => some xs
 | _ => none
def qEV (off n : Nat) (cs : List CV) : List CV := (cs.drop off).take n
def qNy (off : Nat) (cs new : List CV) : Option (List CV) := if off + new.length <= cs.length then some (cs.take off ++ new ++ cs.drop (off + new.length)) else none
def qA4 (d i : Nat) : Nat -> List CV -> List CV
 | _, [] => []
 | k, .dat _ _ _ :: r => .nref d i k :: qA4 d i (k + 1) r
 | k, x :: r => x :: qA4 d i (k + 1) r
def qCa (st : St) (t : TypeId) : CV -> Option SV
 | .pbox b off => match st.box? b with
  | some x => match qCv C t with
   | some (_, n) => mkV C t (qEV off n x.cs)
   | none => none
  | none => none
 | .pelt d i off => match st.row? d with
  | some r => match qCv C t with
   | some (_, n) => mkV C t (qEV off n (if r.m <= 1 then r.t.cells (nth r.t r.l i) else qA4 d i 0 (r.t.cells (nth r.t r.l i))))
   | none => none
  | none => none
 | .pdat e u x off => match qCv C t with
  | some (_, n) => mkV C t (qEV off n (u.cells x))
  | none => none
 | .pn d i off j off2 => match xL st (.nref d i off) with
  | some s => if s.2.1.refs then none else match qCv C t with
   | some (_, n) => mkV C t (qEV off2 n (s.2.1.cells (nth s.2.1 s.2.2 j)))
   | none => none
  | none => none
 | _ => none
def St.fz? (st : St) : CV -> Option (Nat × Nat × Row × Nat)
 | .pelt d i 0 => match qL d st.rows with
  | some r => match r.hole with
   | some (k, off) => if off = wT then some (d, i, r, k) else none
   | none => none
  | none => none
 | _ => none
def xB (M : Nat) (st : St) : Nat -> List CV -> List CV × St
 | _, [] => ([], st)
 | j, .dat e t l :: xs => let r := xB M (st.addRow j { e := e, t := t, l := l, m := M }) (j + 1) xs; (.own j :: r.1, r.2)
 | j, x :: xs => let r := xB M st (j + 1) xs; (x :: r.1, r.2)
def qMF (st : St) (base : Nat) (t : TypeId) (q : Nat × Nat × Row × Nat) : Option R1 := if q.2.2.1.m <= 1 then none else match qCv C t with
 | some (_, n) => if n ≠ q.2.2.1.t.sz then none else
   let r := xB (q.2.2.1.m - 1) { st.kill (CV.nested q.1) with rows := put q.1 { q.2.2.1 with hole := some (q.2.1 + 1, wT) } st.rows } base (q.2.2.1.t.cells (nth q.2.2.1.t q.2.2.1.l q.2.1))
   match mkV C t r.1 with
   | some v => some ⟨decide (q.2.2.2 <= q.2.1), v, r.2⟩
   | none => none
 | none => none
def qAB (st : St) : CV -> Option (CV × Nat × St)
 | .own d => match st.row? d with
  | some r => some (.dat r.e r.t r.l, r.m, st.dropRow d)
  | none => none
 | .vw d lo hi => match st.row? d with
  | some r => some (.dat r.e r.t ((r.l.take hi).drop lo), 0, { st with rows := put d { r with m := 0 } st.rows })
  | none => none
 | .nref d i off => match st.row? d with
  | some r => match r.t.slAt (nth r.t r.l i) off with
   | some s => some (.dat s.1 s.2.1 s.2.2, 0, { st with rows := put d { r with m := Nat.min r.m 1 } st.rows })
   | none => none
  | none => none
 | .dat e t l => some (.dat e t l, 0, st)
 | .pdat e t x o => some (.pdat e t x o, 0, st)
 | .emp e t => some (.dat e t [], 99, st)
 | .int k n => some (.int k n, 99, st)
 | .bool b => some (.bool b, 99, st)
 | .str s => some (.str s, 99, st)
 | _ => none
def qLz (st : St) : List CV -> Option (List CV × Nat × St)
 | [] => some ([], 99, st)
 | x :: r => match qAB st x with
  | some (y, m, st') => match qLz st' r with
   | some (ys, m', st'') => some (y :: ys, Nat.min m m', st'')
   | none => none
  | none => none
def qG5 (st : St) (p : CV) (v : SV) : Option R1 := match v.cells? with
 | none => none
 | some cs => match p with
  | .pbox b off => match st.box? b with
   | some x => if x.ro then none else match qNy off x.cs cs with
    | some cs' => ok1 { st with boxes := put b { x with cs := cs' } st.boxes } .undef
    | none => none
   | none => none
  | .pelt d i off => match qL d st.rows with
   | some ⟨re, rt, rl, rm, some (i0, off0), _⟩ => (match cs with
   | [.own d2] => if off0 ≠ off \/ zF <= off0 then none else match st.row? d2 with
    | some r2 => if r2.m + 1 < rm then none else match rt.slSet (nth rt rl i) off r2.e r2.t r2.l with
     | some x => some ⟨decide (i0 = i), .undef, { (st.dropRow d2).kill (CV.nested d) with rows := put d { e := re, t := rt, l := rl.set i x, m := rm } ((st.dropRow d2).kill (CV.nested d)).rows }⟩
     | none => none
    | none => none
   | _ => none)
   | _ => match st.row? d with
   | some r => if r.m = 0 then none else match qLz st cs with
    | some (cs', m, st') => match st'.row? d with
     | some r' => if r'.m = 0 then none else match r'.t.setCells (nth r'.t r'.l i) off cs' with
      | some x =>
       let st2 : St := st'.kill (CV.nested d)
       ok1 { st2 with rows := put d { r' with l := r'.l.set i x, m := Nat.min r'.m (m + 1) } st2.rows } .undef
      | none => none
     | none => none
    | none => none
   | none => none
  | .pn d i off j off2 => match st.row? d with
   | some r => if r.m <= 1 then none else match r.t.slAt (nth r.t r.l i) off with
    | some ⟨e, u, l⟩ => if u.refs then none else match u.setCells (nth u l j) off2 cs with
     | some x => match r.t.slSet (nth r.t r.l i) off e u (l.set j x) with
      | some y => ok1 { st with rows := put d { r with l := r.l.set i y } st.rows } .undef
      | none => none
     | none => none
    | none => none
   | none => none
  | _ => none
def qNf (st : St) (x : CV) (n : Int) : Option (Bool × CV) :=
 let at_ (len : Nat) (p : CV) : Option (Bool × CV) := some (decide (0 <= n) && decide (n < (len : Int)), p)
 match x with
 | .dat e t l => at_ l.length (.pdat e t (nth t l n.toNat) 0)
 | .own d => match qL d st.rows with
  | some r => if r.isMap then none else at_ r.l.length (.pelt d n.toNat 0)
  | none => none
 | .vw d lo hi => match st.row? d with
  | some r => some (decide (0 <= n) && decide (n < ((hi - lo : Nat) : Int)) && decide (hi <= r.l.length), .pelt d (lo + n.toNat) 0)
  | none => none
 | .nref d i off => match xL st x, qL d st.rows with
  | some s, some r => if r.m <= 1 then none else at_ s.2.2.length (.pn d i off n.toNat 0)
  | _, _ => none
 | _ => none
def qCy (st : St) : CV -> Option Nat
 | .emp _ _ => some 0
 | .vw _ lo hi => some (hi - lo)
 | .dat _ _ l => some l.length
 | .own d => match qL d st.rows with
  | some r => if r.isMap then none else some r.l.length
  | none => none
 | .nref d i off => match xL st (.nref d i off) with
  | some s => some s.2.2.length
  | none => none
 | _ => none
def qFE (place : Nat -> Option (Nat × Nat × TypeId)) (st : St) (cs : List CV) : List (Nat × Operand) -> Option (List CV)
 | [] => some cs
 | (i, x) :: r => match place i with
  | none => none
  | some (off, n, ft) => match qLF C st ft x with
  | some v => match v.cells? with
   | some new => if new.length = n then match qNy off cs new with
     | some cs' => qFE place st cs' r
     | none => none
    else none
   | none => none
  | none => none
def rep (n : Nat) (cs : List CV) : List CV := match n with
 | 0 => []
 | n + 1 => cs ++ rep n cs
def qEr (t : Ty) : Nat -> List CV -> Option (List t.T)
 | 0, cs => if cs.isEmpty then some [] else none
 | n + 1, cs => match t.pack cs with
  | some (x, r) => match qEr t n r with
   | some xs => some (x :: xs)
   | none => none
  | none => none
def qIl (i : TI) : Nat := 2 ^ 46 / (i.bytes + 1)
def kK (st : St) (u : Ty) : CV -> Option (Option ((t : Ty) × List t.T) × Nat × St)
 | .emp _ _ => some (none, 99, st)
 | .dat _ t l => some (some ⟨t, l⟩, if u.refs then 0 else 99, st)
 | .own d => match st.row? d with
  | some r => some (some ⟨r.t, r.l⟩, if u.refs then r.m - 1 else 99, if u.refs then st.dropRow d else st)
  | none => none
 | .vw d lo hi => match st.row? d with
  | some r => if u.refs then none else some (some ⟨r.t, (r.l.take hi).drop lo⟩, 99, st)
  | none => none
 | .nref d i off => match xL st (.nref d i off) with
  | some s => if u.refs then none else some (some ⟨s.2.1, s.2.2⟩, 99, st)
  | none => none
 | .str s => some (some ⟨.int .u8, s.map fun c => (c.toNat : Int)⟩, 99, st)
 | _ => none
def qG1 (u : Ty) (e : TypeId) : Option ((t : Ty) × List t.T) -> Option (List u.T)
 | none => some []
 | some ⟨t', l⟩ => if h : t' = u then some (xG (t := .sl e t') (u := .sl e u) (by rw [h]) l) else none
def qGJ (st : St) (d : Nat) (t : TypeId) (x y : CV) : Option R1 := match qH9 C t with
 | none => none
 | some (e, ei, u) => if ei.size ≠ u.sz then none else match kK st u y with
  | none => none
  | some (new, m, st1) =>
   match qG1 u e new with
   | none => none
   | some b =>
    let fin (st2 : St) (a : List u.T) (ma : Nat) : Option R1 :=
     some ⟨decide (a.length + b.length <= qIl ei), .c (.own d), st2.addRow d { e := e, t := u, l := a ++ b, m := Nat.min ma (m + 1) }⟩
    match x with
    | .emp _ _ => fin st1 [] 99
    | .own d1 => match st1.row? d1 with
     | some r => if r.m = 0 \/ r.e ≠ e then none else if h : r.t = u then fin (st1.dropRow d1) (xG (t := .sl e r.t) (u := .sl e u) (by rw [h]) r.l) r.m else none
     | none => none
    | .vw d1 lo hi => match st1.row? d1 with
     | some r => if r.m = 0 \/ r.e ≠ e then none else if h : r.t = u then
       match fin (st1.dropRow d1) ((xG (t := .sl e r.t) (u := .sl e u) (by rw [h]) r.l).take hi) r.m with
       | some o => some { o with g := o.g && decide (hi <= r.l.length) && decide (lo = 0) }
       | none => none
      else none
     | none => none
    | .nref d1 i off => match st1.row? d1 with
     | some r => if r.m <= 1 \/ d1 = d \/ zF <= off then none else match r.t.slAt (nth r.t r.l i) off with
      | some ⟨e', u', q⟩ => if e' ≠ e then none else if h : u' = u then
        fin ((({ st1 with rows := put d1 { r with m := Nat.min (r.m - 1) (m + 1) + 1, hole := some (i, off) } st1.rows } : St).addRow d
         { e := e, t := u, l := xG (t := .sl e u') (u := .sl e u) (by rw [h]) q, m := Nat.min (r.m - 1) (m + 1) }).dropRow d) (xG (t := .sl e u') (u := .sl e u) (by rw [h]) q) (Nat.min (r.m - 1) (m + 1))
       else none
      | none => none
     | none => none
    | _ => none
def xN (st : St) : Option Operand -> Option (Option Int)
 | none => some none
 | some x => match opv st x with
  | some (.c (.int _ n)) => some (some n)
  | _ => none
def CV.slTy (st : St) (x : CV) : Option (TypeId × Ty) := match xL st x with
 | some ⟨e, t, _⟩ => some (e, t)
 | none => none
def qJ3 (C : Ctx) (t : TypeId) : Option Nat := match C.ti t with
 | some i => match i.elem with
  | some e => match C.ti e with
   | some j => some j.size
   | none => none
  | none => none
 | none => none
def qHC (C : Ctx) (t : TypeId) (u : Ty) : Bool := match C.ti t with
 | some i => match i.sty, u with
  | some .bool, .bool => true
  | some .str, .str => true
  | some (.int .u8), .int .u8 => true
  | _, _ => false
 | none => false
def qKQ (C : Ctx) (st : St) (t : TypeId) (x : CV) : Bool := match x with
 | .str _ => qHC C t .str
 | _ => match qJ3 C t, x.slTy st with
  | some n, some (_, u) => decide (n = u.sz)
  | _, _ => false
def qMt (C : Ctx) (st : St) (t : TypeId) (x : CV) : Bool := match x with
 | .own d => match qJ3 C t, qL d st.rows with
  | some n, some r => decide (n = r.t.sz)
  | _, _ => false
 | _ => qKQ C st t x
def qQA (C : Ctx) (t : TypeId) : CV -> Bool
 | .bool _ => qHC C t .bool
 | _ => true
def qLp (lo hi : Option Int) (len : Nat) : Bool :=
 (match lo with | none => true | some a => decide (0 <= a)) && (match hi with | none => true | some b => decide (0 <= b) && decide (b <= (len : Int))) && decide ((lo.getD 0) <= hi.getD (len : Int))
def qI5 (st : St) (x : CV) (lo hi mx : Option Int) : Option (Bool × CV) :=
 let l := (lo.getD 0).toNat
 let g := qLp lo hi
 match mx with
 | some m => match hi, lo with
  | some h, none => if m = 0 /\ h = 0 then (match x.slTy st with | some (e, t) => some (true, .emp e t) | none => none) else none
  | some h, some a => if m = 0 /\ h = 0 /\ a = 0 then (match x.slTy st with | some (e, t) => some (true, .emp e t) | none => none) else none
  | _, _ => none
 | none => match x with
  | .str s => some (g s.length, .str ((s.take (hi.getD (s.length : Int)).toNat).drop l))
  | .dat e t s => some (g s.length, .dat e t ((s.take (hi.getD (s.length : Int)).toNat).drop l))
  | .own d => match st.row? d with
   | some r => match lo, hi with
    | none, none => some (true, .own d)
    | _, _ => some (g r.l.length, .vw d l (hi.getD (r.l.length : Int)).toNat)
   | none => none
  | .vw d a b => match st.row? d with
   | some r => some (g (b - a) && decide (a <= b) && decide (b <= r.l.length), .vw d (a + l) (a + (hi.getD ((b - a : Nat) : Int)).toNat))
   | none => none
  | _ => none
def qX (l : List Int) : List UInt8 := l.map fun n => UInt8.ofNat n.toNat
def qKb (st : St) (d : Nat) (src dst : TypeId) (x : CV) : Option R1 := match C.ti src, C.ti dst with
 | none, _ => none
 | _, none => none
 | some j, some i => match x, i.sty with
  | .int _ n, some (.int k) => ok1 st (.c (.int k (k.wrap n)))
  | .str s, some .str => ok1 st (.c (.str s))
  | .str s, some (.sl e (.int .u8)) => if !qHC C e (.int .u8) then none else some ⟨decide (s.length <= 2 ^ 46), .c (.own d), st.addRow d { e := e, t := .int .u8, l := s.map fun c => (c.toNat : Int), m := 99 }⟩
  | .own d', some (.sl e (.int .u8)) => if !(decide (src = dst) && qHC C e (.int .u8)) then none else match st.row? d' with
   | some r => if r.m = 0 then none else some ⟨decide (0 < r.l.length), .c (.own d'), { st.kill (CV.nested d') with rows := put d' r st.rows }⟩
   | none => none
  | y, some .str => match j.sty with
   | some (.sl e' _) => if !qHC C e' (.int .u8) then none else match xL st y with
    | some ⟨_, .int .u8, l⟩ => ok1 st (.c (.str (qX l)))
    | _ => none
   | _ => none
  | _, _ => none
def kC (mx : Bool) : CV -> List CV -> Option CV
 | x, [] => some x
 | .int k x, .int k' y :: r => if k = k' then kC mx (.int k (if mx then (if y > x then y else x) else (if y < x then y else x))) r else none
 | _, _ => none
def qNc (st : St) : List Operand -> Option (List SV)
 | [] => some []
 | x :: r => match opv st x, qNc st r with
  | some v, some vs => some (v :: vs)
  | _, _ => none
def cvs : List SV -> Option (List CV)
 | [] => some []
 | .c x :: r => (cvs r).map (x :: ·)
 | _ => none
def yY : List SV -> Option (List (Bool × Nat) × List CV)
 | [] => some ([], [])
 | .c x :: r => match yY r with
  | some (s, cs) => some ((false, 1) :: s, x :: cs)
  | none => none
 | .agg xs :: r => match yY r with
  | some (s, cs) => some ((true, xs.length) :: s, xs ++ cs)
  | none => none
 | _ => none
def qHO (st : St) (d : Nat) (b : Builtin) (ts : List TypeId) (args : List SV) : Option R1 := match cvs args with
 | none => none
 | some xs => match b, ts, xs with
  | .len, t :: _, [.str s] => if qHC C t .str then ok1 st (.c (.int .i64 s.length)) else none
  | .len, t :: _, [x] => match qCy st x with
   | some n => if (qJ3 C t).isSome then ok1 st (.c (.int .i64 n)) else none
   | none => none
  | .append, [t, t'], [x, y] => if (match y with | .str _ => qHC C t' .str | _ => (qJ3 C t').isSome) then qGJ C st d t x y else none
  | .min, _, x :: r => (kC false x r).bind fun y => ok1 st (.c y)
  | .max, _, x :: r => (kC true x r).bind fun y => ok1 st (.c y)
  | .clear, [t], [.vw d lo hi] => match st.row? d with
   | some r => match qH9 C t with
    | some (_, ei, u) => match r.t.pack1 ei.zero with
     | some z => if u = r.t /\ ei.size = r.t.sz /\ 1 <= r.m then some ⟨true, .tup [], { st.kill (CV.nested d) with rows := put d { r with l := r.l.take lo ++ List.replicate (hi - lo) z ++ r.l.drop hi } st.rows }⟩ else none
     | none => none
    | none => none
   | none => none
  | _, _, _ => none
def qBV : (t : Ty) -> List t.T -> CV -> List CV -> Option (List CV × Bool)
 | .prod (.int k) v, l, .int k' n, zs => if k' = k then (match v.pack1 zs with
  | some z => some (v.cells ((qFi (α := Int) (β := v.T) l n).getD z), (qFi (α := Int) (β := v.T) l n).isSome)
  | none => none) else none
 | .prod .str v, l, .str s, zs => match v.pack1 zs with
  | some z => some (v.cells ((qFi (α := List UInt8) (β := v.T) l s).getD z), (qFi (α := List UInt8) (β := v.T) l s).isSome)
  | none => none
 | _, _, _, _ => none
def qDC : (t : Ty) -> List t.T -> CV -> List CV -> Option (List t.T)
 | .prod (.int k) v, l, .int k' n, cs => if k' = k then (match v.pack1 cs with
  | some x => some (qIi (α := Int) (β := v.T) l n x)
  | none => none) else none
 | .prod .str v, l, .str s, cs => match v.pack1 cs with
  | some x => some (qIi (α := List UInt8) (β := v.T) l s x)
  | none => none
 | _, _, _, _ => none
def qGn (t : TypeId) : Option (Ty × Ty × TypeId × TI) := match C.ti t with
 | some i => match i.mpt with
  | some (kt, vt) => match C.ti kt, C.ti vt with
   | some ki, some vi => match ki.sty, vi.sty with
    | some k, some v => if v.refs = false /\ v.sz = 1 then some (k, v, vt, vi) else none
    | _, _ => none
   | _, _ => none
  | none => none
 | none => none
def jY (st : St) (o : Oper) : Option R1 :=
 let d := 32 * o.dst.getD 0
 match o.op with
 | .move x | .assign x => match qLF C st o.type x with
  | some (.c (.emp e t)) => ok1 (st.addRow d { e := e, t := t, l := [], m := 99 }) (.c (.own d))
  | some v => ok1 st v
  | none => none
 | .pick c a b => match opv st c with
  | some (.c (.bool t)) => match opv st a, opv st b with
   | some (.c (.bool p)), some (.c (.bool q)) => ok1 st (.c (.bool (if t then p else q)))
   | some (.c (.int k p)), some (.c (.int k' q)) => if k = k' then ok1 st (.c (.int k (if t then p else q))) else none
   | some (.c (.str p)), some (.c (.str q)) => ok1 st (.c (.str (if t then p else q)))
   | some v, some .undef => some ⟨t, v, st⟩
   | some .undef, some v => some ⟨!t, v, st⟩
   | _, _ => none
  | _ => none
 | .binOp op xt x y _ => match opv st x, opv st y with
  | some (.c a), some (.c b) => if qQA C xt a then match qFU op a b with
   | some (g, v) => some ⟨g, .c v, st⟩
   | none => none
   else none
  | some (.agg xs), some (.agg ys) => match C.ti xt with
   | some i => match yJ i.eqc xs ys with
    | some b => (match op with | .eql => ok1 st (.c (.bool b)) | .neq => ok1 st (.c (.bool (!b))) | _ => none)
    | none => none
   | none => none
  | _, _ => none
 | .unOp op _ x => match opv st x with
  | some (.c a) => match qIP op a with
   | some v => ok1 st (.c v)
   | none => none
  | _ => none
 | .convert s t x => match opv st x with
  | some (.c a) => qKb C st d s t a
  | _ => none
 | .nilCheck x => match opv st x with
  | some (.c (.pbox b o)) => ok1 st (.c (.pbox b o))
  | some (.c (.pelt d i o)) => ok1 st (.c (.pelt d i o))
  | some (.c (.pdat e t x o)) => ok1 st (.c (.pdat e t x o))
  | some (.c (.pn d i o j o2)) => ok1 st (.c (.pn d i o j o2))
  | _ => none
 | .fieldAddr t x f => match C.ti t with
  | some i => match i.fields[f]? with
   | some (off, ft) => match qCv C ft with
    | some (_, 0) => none
    | some _ => match opv st x with
     | some (.c (.pbox b o)) => ok1 st (.c (.pbox b (o + off)))
     | some (.c (.pelt d i o)) => ok1 st (.c (.pelt d i (o + off)))
     | some (.c (.pdat e t x o)) => ok1 st (.c (.pdat e t x (o + off)))
     | some (.c (.pn d i o j o2)) => ok1 st (.c (.pn d i o j (o2 + off)))
     | _ => none
    | none => none
   | none => none
  | none => none
 | .field t x f => match C.ti t with
  | some i => match i.fields[f]? with
   | some (off, ft) => match opv st x, qCv C ft with
    | some (.agg cs), some (_, n) => (mkV C ft (qEV off n cs)).bind (ok1 st)
    | _, _ => none
   | none => none
  | none => none
 | .extract x i => match opv st x with
  | some (.tup vs) => vs[i]?.bind (ok1 st)
  | _ => none
 | .build t parts => match C.ti t with
  | some i => if !i.isAgg || i.fields.isEmpty then none else match qFE C (fun j => match i.fields[j]? with
    | some (off, ft) => (qCv C ft).map fun s => (off, s.2, ft)
    | none => none) st i.zero parts.toList with
   | some cs => if cs.length = i.size then (let (cs', st') := xM st d 0 cs; ok1 st' (.agg cs')) else none
   | none => none
  | none => none
 | .box t x => match qLF C st t x, qCv C t with
  | some v, some (_, n) => match v.cells? with
   | some cs => if cs.length = n then ok1 (st.addBox (o.dst.getD 0) { e := t, cs := cs, ro := false }) (.c (.pbox (o.dst.getD 0) 0)) else none
   | none => none
  | _, _ => none
 | .alloc t => match C.ti t with
  | some i => ok1 (st.addBox (o.dst.getD 0) { e := t, cs := i.zero, ro := false }) (.c (.pbox (o.dst.getD 0) 0))
  | none => none
 | .range t x => match C.ti t, opv st x with
  | some i, some (.c (.str s)) => if i.sty = some .str then ok1 (st.addBox (o.dst.getD 0) { e := 0, cs := [.str s, .int .i64 0], ro := false, it := true }) (.c (.pbox (o.dst.getD 0) 0)) else none
  | _, _ => none
 | .buildSlice t n parts => match qH9 C t with
  | some (e, ei, u) => match qFE C (fun j => some (j * ei.size, ei.size, e)) st (rep n ei.zero) parts.toList with
   | some cs => match qLz st cs with
    | some (cs', m, st') => match qEr u n cs' with
     | some l => if n * ei.size <= 16777216 /\ ei.size = u.sz then ok1 (st'.addRow d { e := e, t := u, l := l, m := Nat.min 99 (m + 1) }) (.c (.own d)) else none
     | none => none
    | none => none
   | none => none
  | none => none
 | .makeSlice t x y => match qH9 C t, opv st x, opv st y with
  | some (e, ei, u), some (.c (.int k n)), some (.c (.int k' n')) => match u.pack1 ei.zero with
   | none => none
   | some z =>
   if ei.size = u.sz then some ⟨decide (0 <= n) && decide (n <= (qIl ei : Int)) && decide (n' = n), .c (.own d), st.addRow d { e := e, t := u, l := List.replicate n.toNat z, m := 99 }⟩ else none
  | _, _, _ => none
 | .load t x => match opv st x with
  | some (.c p) => match st.fz? p with
   | some q => qMF C st d t q
   | none => (qCa C st t p).bind (ok1 st)
  | _ => none
 | .store t x y => match opv st x, qLF C st t y, qCv C t with
  | some (.c (.pbox b off)), some (.c (.emp e u)), some (_, 1) => let st' := st.addRow (qS b + off) { e := e, t := u, l := [], m := 99 }; qG5 st' (.pbox b off) (.c (.own (qS b + off)))
  | some (.c p), some v, some (_, n) => if n ≠ 0 /\ (v.cells?.map List.length) = some n then qG5 st p v else none
  | _, _, _ => none
 | .indexAddr t x i => match opv st x, opv st i with
  | some (.c a), some (.c (.int _ n)) => if !qMt C st t a then none else match qNf st a n with
   | some (g, p) => some ⟨g, .c p, st⟩
   | none => none
  | _, _ => none
 | .index t x i => match opv st x, opv st i with
  | some (.c (.str s)), some (.c (.int _ n)) => if !qHC C t .str then none else some ⟨decide (0 <= n) && decide (n < (s.length : Int)), .c (.int .u8 ((s.getD n.toNat 0).toNat : Int)), st⟩
  | _, _ => none
 | .slice t x lo hi mx => match opv st x, xN st lo, xN st hi, xN st mx with
  | some (.c a), some l, some h, some m => if !qKQ C st t a then none else match qI5 st a l h m with
   | some (g, .emp e t) => some ⟨g, .c (.own d), st.addRow d { e := e, t := t, l := [], m := 99 }⟩
   | some (g, v) => some ⟨g, .c v, st⟩
   | none => none
  | _, _, _, _ => none
 | .makeFunc f first caps => match f, qNc st first.toList, qNc st caps.toList with
  | .func g, some a, some b => match yY (a ++ b) with
   | some (sh, cs) => if cs.any (fun | .fn .. => true | _ => false) then none else ok1 st (.c (.fn g sh a.length cs))
   | none => none
  | _, _, _ => none
 | .call c => match c.callee with
  | .builtin b => match qGh C st c.argTypes.toList c.args.toList with
   | some vs => qHO C st d b c.argTypes.toList vs
   | none => none
  | _ => none
 | .makeMap t none => match qGn C t with
  | some (k, v, _, _) => ok1 (st.addRow d { e := 0, t := .prod k v, l := [], m := 99, hole := some (0, zF), mp := [] }) (.c (.own d))
  | none => none
 | .lookup t x y ok => match qGn C t, opv st x, opv st y with
  | some (k, v, vt, vi), some (.c (.own d)), some (.c kc) => match qL d st.rows with
   | some r => if r.isMap = true /\ r.t = .prod k v then match qBV r.t r.mp kc vi.zero with
    | some ([c], b) => ok1 st (if ok then .tup [.c c, .c (.bool b)] else .c c)
    | _ => none
    else none
   | none => none
  | _, _, _ => none
 | .mapUpdate t m x y | .insert t m x y => match qGn C t, opv st m, opv st x, opv st y with
  | some (k, v, vt, vi), some (.c (.own d)), some (.c kc), some (.c vc) => match qL d st.rows with
   | some r => if r.isMap = true /\ r.t = .prod k v then match qDC r.t r.mp kc [vc] with
    | some l => ok1 { st.kill (CV.nested d) with rows := put d { r with mp := l } st.rows } .undef
    | none => none
    else none
   | none => none
  | _, _, _, _ => none
 | _ => none
end
structure RES where
 ret : SV
 outs : List (List CV)
inductive qAP where
 | keep
 | row (d : Nat) (r : Row)
 | nest (d i off : Nat) (r : Row) (n : Nat)
 | box (b : Nat) (x : Box)
structure Exp where
 st : St
 args : List SV
 peeks : List (Nat × Nat)
 peekB : List Nat
 lent : List (List qAP)
def zG (st : St) : List CV -> Option (List CV × St)
 | [] => some ([], st)
 | .own d :: r => match st.rowM? d with
  | some x => match zG { st.kill (CV.nested d) with rows := del d st.rows } r with
   | some (cs, st') => some (.row x :: cs, st')
   | none => none
  | none => none
 | x :: r => match x with
  | .int .. | .bool _ | .str _ | .dat .. | .pdat .. => match zG st r with
   | some (cs, st') => some (x :: cs, st')
   | none => none
  | .emp e t => match zG st r with
   | some (cs, st') => some (.row { e := e, t := t, l := [], m := 99 } :: cs, st')
   | none => none
  | _ => none
def qBE (st : St) : CV -> Option (CV × qAP × St)
 | .own d => match st.rowM? d with
  | some r => some (.row r, .row d r, { st.kill (CV.nested d) with rows := del d st.rows })
  | none => none
 | .nref d i off => match st.row? d with
  | some r => if r.m <= 1 then none else match r.t.slAt (nth r.t r.l i) off with
   | some s => some (.row { e := s.1, t := s.2.1, l := s.2.2, m := r.m - 1 }, .nest d i off r s.2.2.length, { st.kill (CV.nested d) with rows := del d st.rows })
   | none => none
  | none => none
 | .pbox b 0 => match st.box? b with
  | some x => if x.ro then none else match zG st x.cs with
   | some (cs, st') => some (.boxr x.e cs, .box b x, { st' with boxes := del b st'.boxes })
   | none => none
  | none => none
 | x => match x with
  | .emp e t => some (.row { e := e, t := t, l := [], m := 99 }, .keep, st)
  | .int .. | .bool _ | .str _ | .dat .. | .pdat .. => some (x, .keep, st)
  | _ => none
def qAv (st : St) : List CV -> Option (List CV × List qAP × St)
 | [] => some ([], [], st)
 | x :: r => match qBE st x with
  | some (y, l, st') => match qAv st' r with
   | some (ys, ls, st'') => some (y :: ys, l :: ls, st'')
   | none => none
  | none => none
def qEl (st : St) : CV -> Option (CV × St)
 | .own d => match st.rowM? d with
  | some r => some (.row r, st.dropRow d)
  | none => none
 | x => match x with
  | .emp e t => some (.row { e := e, t := t, l := [], m := 99 }, st)
  | .int .. | .bool _ | .str _ | .dat .. | .pdat .. => some (x, st)
  | _ => none
def qBY (st : St) : List CV -> Option (List CV × St)
 | [] => some ([], st)
 | x :: r => match qEl st x with
  | some (y, st') => match qBY st' r with
   | some (ys, st'') => some (y :: ys, st'')
   | none => none
  | none => none
def SV.withCells : SV -> List CV -> SV
 | .c _, [x] => .c x
 | .agg _, xs => .agg xs
 | v, _ => v
def jS (st : St) : List Nat -> List SV -> Option Exp
 | _, [] => some ⟨st, [], [], [], []⟩
 | ms, v :: r => match ms.headD 0 with
  | 0 => match rdS st v with
   | some (w, ds, bs) => match jS st (ms.drop 1) r with
    | some x => some { x with args := w :: x.args, peeks := ds ++ x.peeks, peekB := bs ++ x.peekB }
    | none => none
   | none => none
  | 1 => match v.cells? with
   | some cs => match qAv st cs with
    | some (cs', ls, st') => match jS st' (ms.drop 1) r with
     | some x => some { x with args := v.withCells cs' :: x.args, lent := ls :: x.lent }
     | none => none
    | none => none
   | none => none
  | 3 => match v with
   | .c (.emp e t) => match jS st (ms.drop 1) r with
    | some x => some { x with args := .c (.emp e t) :: x.args }
    | none => none
   | _ => none
  | 4 => match v with
   | .c (.fn f sh n cs) => if sh.all (fun x => !x.1) && decide (sh.length = cs.length) then match qAv st cs with
    | some (cs', ls, st') => match jS st' (ms.drop 1) r with
     | some x => some { x with args := .clo f n cs' :: x.args, lent := ls :: x.lent }
     | none => none
    | none => none
    else none
   | _ => none
  | 5 => match v.cells? with
   | some cs => match qAv st cs with
    | some (cs', _, st') => match jS st' (ms.drop 1) r with
     | some x => some { x with args := v.withCells cs' :: x.args }
     | none => none
    | none => none
   | none => none
  | _ => match v.cells? with
   | some cs => match qBY st cs with
    | some (cs', st') => match jS st' (ms.drop 1) r with
     | some x => some { x with args := v.withCells cs' :: x.args }
     | none => none
    | none => none
   | none => none
def qH (st : St) (base : Nat) : Nat -> List CV -> List CV × St
 | _, [] => ([], st)
 | j, .row r :: xs => let (ys, st') := qH (st.addRow (base + j) r) base (j + 1) xs; (.own (base + j) :: ys, st')
 | j, x :: xs => let (ys, st') := qH st base (j + 1) xs; (x :: ys, st')
def St.newBox (st : St) (b : Nat) (x : Box) : St := { st.kill (CV.pts b) with boxes := put b x (st.kill (CV.pts b)).boxes, lentB := st.lentB.filter fun y => !(y == b) }
def qDH (st : St) (dst j : Nat) : SV -> SV × St × Nat
 | .c (.boxr e cs) => let (ys, st') := qH st (qS dst) 0 cs; (.c (.pbox dst 0), st'.newBox dst { e := e, cs := ys, ro := false }, j + 1)
 | .c x => match qH st (32 * dst) j [x] with
  | ([y], st') => (.c y, st', j + 1)
  | (_, st') => (.undef, st', j + 1)
 | .agg xs => let (ys, st') := qH st (32 * dst) j xs; (.agg ys, st', j + xs.length)
 | v => (v, st, j)
def qLc (st : St) (dst j : Nat) : List SV -> List SV × St
 | [] => ([], st)
 | v :: r => let (w, st', j') := qDH st dst j v; let (ws, st'') := qLc st' dst j' r; (w :: ws, st'')
def Ty.full : Ty -> Nat -> Bool
 | .prod a b, n => a.full n && b.full n
 | .ptr _ _, _ => false
 | .sl _ _, 0 => false
 | .sl _ t, n + 1 => t.full n
 | _, _ => true
def Row.leads (r : Row) : Bool := if r.isMap then r.t.refs else !(Ty.sl r.e r.t).full r.m
def CV.leads : CV -> Bool
 | .dat .. | .pdat .. => true
 | .row r => r.leads
 | .fn .. => true
 | .boxr _ cs => cs.any fun | .dat .. | .pdat .. => true | .fn .. => true | .row r => r.leads | _ => false
 | _ => false
def SV.leads1 : SV -> Bool
 | .c x => x.leads
 | .agg xs => xs.any CV.leads
 | .clo .. => true
 | _ => false
def SV.leads : SV -> Bool
 | .tup xs => xs.any SV.leads1
 | x => x.leads1
def zO (st : St) : List (Nat × Nat) -> St
 | [] => st
 | (d, k) :: r => match st.row? d with
  | some x => zO { st with rows := put d { x with m := Nat.min x.m k } st.rows } r
  | none => zO st r
def zH (st : St) : List Nat -> St
 | [] => st
 | b :: r => match qL b st.boxes with
  | some x => zH { st with boxes := put b { x with ro := true } st.boxes } r
  | none => zH st r
def qED (st : St) : qAP -> CV -> Option St
 | .keep, _ => some st
 | .row d r, .row r' => if r'.t = r.t /\ r'.isMap = r.isMap then some { st with rows := put d r' st.rows } else none
 | .nest d i off r n, .row r' => if r'.m + 1 = r.m /\ r'.isMap = false then match r.t.slSet (nth r.t r.l i) off r'.e r'.t r'.l with
   | some x => some { st with rows := put d { r with l := r.l.set i x } st.rows }
   | none => none
  else none
 | .box b x, .boxr e cs => if cs.length <= 32 then (let (ys, st') := qH st (qS b) 0 cs; some { st' with boxes := put b { e := e, cs := ys, ro := x.ro } st'.boxes }) else none
 | _, _ => none
def qGI (st : St) : List qAP -> List CV -> Option St
 | [], [] => some st
 | l :: ls, x :: xs => match qED st l x with
  | some st' => qGI st' ls xs
  | none => none
 | _, _ => none
def qB4 (st : St) : List (List qAP) -> List (List CV) -> Option St
 | [], [] => some st
 | l :: ls, x :: xs => match qGI st l x with
  | some st' => qB4 st' ls xs
  | none => none
 | _, _ => none
def qAP.rowNames : qAP -> List Nat
 | .row d _ => [d]
 | .nest d _ _ _ _ => [d]
 | _ => []
def qAP.boxNames : qAP -> List Nat
 | .box b _ => [b]
 | _ => []
def qBC (ls : List (List qAP)) : Bool :=
 let bs := ls.flatMap fun l => l.flatMap qAP.boxNames
 bs.isEmpty || ((ls.flatMap fun l => l.flatMap qAP.rowNames).all fun d => bs.all fun b => !(decide (qS b <= d) && decide (d < qS b + 32)))
def SV.small : SV -> Bool
 | .tup vs => vs.all fun | .c (.boxr ..) => false | .agg xs => decide (xs.length <= 32) | .tup _ => false | .clo .. => false | _ => true
 | .clo .. => false
 | _ => true
def CV.noBox : CV -> Bool
 | .boxr .. => false
 | _ => true
def SV.flat : SV -> Bool
 | .agg xs => decide (xs.length <= 32) && xs.all CV.noBox
 | .c (.boxr _ cs) => decide (cs.length <= 32)
 | .clo _ _ cs => decide (cs.length <= 3) && cs.all fun | .boxr _ ds => decide (ds.length <= 32) | _ => false
 | .tup _ => false
 | .undef => false
 | _ => true
def vL (vs : List SV) : Bool := decide (vs.length <= 1000) && vs.all SV.flat
def Exp.ok (e : Exp) : Bool := vL e.args && e.peeks.all (fun p => (e.st.row? p.1).isSome) && e.peekB.all (fun b => (qL b e.st.boxes).isSome) && qBC e.lent
def kU (e : Exp) (dst : Nat) (r : RES) : Option (SV × St) :=
 if !r.ret.small then none else
 let st0 := if r.ret.leads || r.outs.any (fun cs => cs.any CV.leads) then zH (zO e.st e.peeks) e.peekB else e.st
 match qB4 st0 e.lent r.outs with
 | none => none
 | some st1 => match r.ret with
  | .tup vs => let (ws, st3) := qLc st1 dst 0 vs; some (.tup ws, st3)
  | v => let (w, st3, _) := qDH st1 dst 0 v; some (w, st3)
def CV.isRow : CV -> Bool
 | .row _ => true
 | _ => false
def vR (st : St) (b : Nat) : List CV -> List CV × St
 | .boxr e cs :: r => let (ys, st') := qH st (qS b) 0 cs; let st2 := st'.newBox b { e := e, cs := ys, ro := false }; let (zs, st3) := vR { st2 with lentB := b :: st2.lentB } (b + 1000) r; (.pbox b 0 :: zs, st3)
 | _ => ([], st)
def qAx (st : St) (i : Nat) (m : Nat) : SV -> SV × St
 | .clo f n cs => let (zs, st') := vR st (i + 1000) cs; (.c (.fn f (cs.map fun _ => (false, 1)) n zs), st')
 | .c (.boxr e cs) => let (ys, st') := qH st (qS i) 0 cs; (.c (.pbox i 0), { st'.newBox i { e := e, cs := ys, ro := false } with lentB := if m = 1 then i :: (st'.newBox i { e := e, cs := ys, ro := false }).lentB else (st'.newBox i { e := e, cs := ys, ro := false }).lentB })
 | .c x => match qH st (32 * i) 0 [x] with
  | ([y], st') => (.c y, { st' with lentR := if x.isRow = true /\ m = 1 then (32 * i) :: st'.lentR else st'.lentR })
  | (_, st') => (.undef, st')
 | .agg xs => let (ys, st') := qH st (32 * i) 0 xs; (.agg ys, { st' with lentR := if m = 1 then (ys.filterMap fun | .own d => some d | _ => none) ++ st'.lentR else st'.lentR })
 | v => (v, st)
def qBJ (st : St) (i : Nat) : List Nat -> List SV -> List SV × St
 | _, [] => ([], st)
 | ms, v :: r => let (w, st') := qAx st i (ms.headD 0) v; let (ws, st'') := qBJ st' (i + 1) (ms.drop 1) r; (w :: ws, st'')
def qAi (i : Nat) : List SV -> List (Nat × SV)
 | [] => []
 | v :: r => (i, v) :: qAi (i + 1) r
def enter (ms : List Nat) (args : List SV) : St :=
 let (ws, st) := qBJ { slots := [], rows := [], boxes := [] } 0 ms args
 { st with slots := qAi 0 ws }
def qGu (st : St) (rs : List (Option Nat)) : CV -> Option (CV × St × List (Option Nat))
 | .own d => match st.rowM? d with
  | some r => if st.lentR.contains d then none else match rs.headD (some 99) with
   | none => if r.isMap then none else some (.dat r.e r.t r.l, st.dropRow d, rs.drop 1)
   | some m => if m <= r.m then some (.row { r with m := m }, st.dropRow d, rs.drop 1) else none
  | none => none
 | .emp e t => match rs.headD (some 99) with
  | none => some (.dat e t [], st, rs.drop 1)
  | some m => some (.row { e := e, t := t, l := [], m := m }, st, rs.drop 1)
 | .nref d i off => match rs.headD (some 99), st.row? d with
  | none, some r => match r.t.slAt (nth r.t r.l i) off with
   | some s => some (.dat s.1 s.2.1 s.2.2, { st with rows := put d { r with m := Nat.min r.m 1 } st.rows }, rs.drop 1)
   | none => none
  | _, _ => none
 | .vw d lo hi => match st.row? d with
  | some r => match rs.headD (some 99) with
   | none => some (.dat r.e r.t ((r.l.take hi).drop lo), { st with rows := put d { r with m := 0 } st.rows }, rs.drop 1)
   | some m => if st.lentR.contains d then none else if lo = 0 then (if 1 <= m /\ m <= r.m then some (.row { r with m := m, l := r.l.take hi }, st.dropRow d, rs.drop 1) else none) else none
  | none => none
 | .int k n => some (.int k n, st, rs)
 | .bool b => some (.bool b, st, rs)
 | .str s => some (.str s, st, rs)
 | .dat e t l => match rs.headD (some 99) with
  | none => some (.dat e t l, st, rs.drop 1)
  | some _ => none
 | .pdat e t x o => some (.pdat e t x o, st, rs)
 | _ => none
def qJY (st : St) (rs : List (Option Nat)) : List CV -> Option (List CV × St × List (Option Nat))
 | [] => some ([], st, rs)
 | x :: r => match qGu st rs x with
  | some (y, st', rs') => match qJY st' rs' r with
   | some (ys, st'', rs'') => some (y :: ys, st'', rs'')
   | none => none
  | none => none
def qBZ (st : St) : List CV -> Option (List CV × St)
 | [] => some ([], st)
 | x :: r => match qGu st [match x with
   | .own d => (st.rowM? d).map Row.m
   | .emp _ _ => some 99
   | _ => none] x with
  | some (y, st', _) => match qBZ st' r with
   | some (ys, st'') => some (y :: ys, st'')
   | none => none
  | none => none
def qNl (st : St) (rs : List (Option Nat)) : SV -> Option (SV × St × List (Option Nat))
 | .c (.pbox b 0) => match st.box? b with
  | some x => if st.lentB.contains b || x.ro then none else match qBZ { st with boxes := del b st.boxes } x.cs with
   | some (cs, st') => some (.c (.boxr x.e cs), st', rs)
   | none => none
  | none => none
 | .c x => match qGu st rs x with
  | some (y, st', rs') => some (.c y, st', rs')
  | none => none
 | .agg xs => match qJY st rs xs with
  | some (ys, st', rs') => some (.agg ys, st', rs')
  | none => none
 | _ => none
def qJX (st : St) (rs : List (Option Nat)) : List SV -> Option (List SV × St)
 | [] => some ([], st)
 | v :: r => match qNl st rs v with
  | some (w, st', rs') => match qJX st' rs' r with
   | some (ws, st'') => some (w :: ws, st'')
   | none => none
  | none => none
def wJ (st : St) (base : Nat) : Nat -> List CV -> Option (List CV × St)
 | _, [] => some ([], st)
 | j, .row _ :: xs => match st.rowM? (base + j) with
  | some r => if !st.lentR.contains (base + j) then none else match wJ { st.kill (CV.nested (base + j)) with rows := del (base + j) st.rows } base (j + 1) xs with
   | some (ys, st') => some (.row r :: ys, st')
   | none => none
  | none => none
 | j, x :: xs => match wJ st base (j + 1) xs with
  | some (ys, st') => some (x :: ys, st')
  | none => none
def qAh (st : St) (b : Nat) : List CV -> Option (List CV × St)
 | [] => some ([], st)
 | .boxr _ _ :: r => match st.box? b with
  | some x => if x.ro || !st.lentB.contains b then none else match qBZ { st with boxes := del b st.boxes } x.cs with
   | some (cs, st') => match qAh st' (b + 1000) r with
    | some (ys, st'') => some (.boxr x.e cs :: ys, st'')
    | none => none
   | none => none
  | none => none
 | _ => none
def SV.isClo : SV -> Bool
 | .clo .. => true
 | _ => false
def qNB (st : St) (i : Nat) : SV -> Option (List CV × St)
 | .clo _ _ cs => qAh st (i + 1000) cs
 | .c (.boxr _ _) => match st.box? i with
  | some x => if x.ro || !st.lentB.contains i then none else match qBZ { st with boxes := del i st.boxes } x.cs with
   | some (cs, st') => some ([.boxr x.e cs], st')
   | none => none
  | none => none
 | v => match v.cells? with
  | some cs => wJ st (32 * i) 0 cs
  | none => none
def qIf (st : St) (i : Nat) : List Nat -> List SV -> Option (List (List CV))
 | _, [] => some []
 | ms, v :: r => if ms.headD 0 = 1 \/ ms.headD 0 = 4 then match (if decide (ms.headD 0 = 4) = v.isClo then qNB st i v else none) with
   | some (cs, st') => match qIf st' (i + 1) (ms.drop 1) r with
    | some l => some (cs :: l)
    | none => none
   | none => none
  else qIf st (i + 1) (ms.drop 1) r
section
variable (C : Ctx)
def qP7 (st : St) : ResultVar -> Option SV
 | .tmp t => qL t st.slots
 | .cell t ty => match qL t st.slots with
  | some (.c (.pbox b o)) => qCa C st ty (.pbox b o)
  | _ => none
def qJc (st : St) : List ResultVar -> Option (List SV)
 | [] => some []
 | x :: r => match qP7 C st x, qJc st r with
  | some v, some vs => some (v :: vs)
  | _, _ => none
def qJB (fn : Func) (ms : List Nat) (rs : List (Option Nat)) (args : List SV) (st : St) : Option RES := match qJc C st fn.results.toList with
 | none => none
 | some vs => match qJX { st with slots := [] } rs vs with
  | none => none
  | some (ws, st') => match qIf st' 0 ms args with
   | none => none
   | some o => some ⟨match ws with | [w] => w | ws => .tup ws, o⟩
def SV.cellSet (v : SV) (j : Nat) (x : CV) : SV := match v with
 | .c _ => .c x
 | .agg xs => .agg (xs.set j x)
 | v => v
def SV.cellAt (v : SV) (j : Nat) : Option CV := match v with
 | .c x => some x
 | .agg xs => xs[j]?
 | _ => none
def rename (st : St) (d d' m : Nat) : Option St := match st.rowM? d with
 | some r => if r.isMap then (if d = d' then some st else if st.lentR.contains d then none else some ((st.dropRow d).addRow d' r)) else if d = d' then some { st with rows := put d { r with m := Nat.min r.m m } st.rows } else
  if st.lentR.contains d then none else some ((st.dropRow d).addRow d' { r with m := Nat.min r.m m })
 | none => none
def narrow (st : St) (d hi d' m : Nat) : Option St := match st.row? d with
 | some r => if r.m = 0 \/ m = 0 \/ st.lentR.contains d = true then none else some ((st.dropRow d).addRow d' { r with l := r.l.take hi, m := Nat.min r.m m })
 | none => none
def St.cellTo (st : St) (s j : Nat) (c : CV) : Option St := match qL s st.slots with
 | some v => some (st.set s (v.cellSet j c))
 | none => none
def St.boxTo (st : St) (b j : Nat) (c : CV) : Option St := match st.box? b with
 | some x => some { st with boxes := put b { x with cs := x.cs.set j c } st.boxes }
 | none => none
def fzRow (st : St) (d : Nat) : Option St := match qL d st.rows with
 | some r => match r.hole with
  | none => if r.m = 0 then none else some { st.kill (CV.nested d) with rows := put d { r with hole := some (0, wT) } st.rows }
  | some (_, off) => if off = wT then some st else none
 | none => none
def co1 (st : St) (s j : Nat) (c : Co) : Option St := match qL s st.slots with
 | none => none
 | some v => match v.cellAt j, c with
  | some (.own d), .own m => match rename st d (32 * s + j) m with
   | some st' => st'.cellTo s j (.own (32 * s + j))
   | none => none
  | some (.vw d lo hi), .own m => if lo = 0 then (match narrow st d hi (32 * s + j) m with
   | some st' => st'.cellTo s j (.own (32 * s + j))
   | none => none) else none
  | some (.own d), .dat => match st.row? d with
   | some r => if st.lentR.contains d then none else (st.dropRow d).cellTo s j (.dat r.e r.t r.l)
   | none => none
  | some _, .dat => some st
  | some (.own d), .fz => fzRow st d
  | _, _ => none
def qQc (st : St) (b j : Nat) (c : Co) : Option St := match st.box? b with
 | none => none
 | some x => match x.cs[j]?, c with
  | some (.own d), .own m => match rename st d (qS b + j) m with
   | some st' => st'.boxTo b j (.own (qS b + j))
   | none => none
  | some (.vw d lo hi), .own m => if lo = 0 then (match narrow st d hi (qS b + j) m with
   | some st' => st'.boxTo b j (.own (qS b + j))
   | none => none) else none
  | some (.own d), .dat => match st.row? d with
   | some r => if st.lentR.contains d then none else (st.dropRow d).boxTo b j (.dat r.e r.t r.l)
   | none => none
  | some _, .dat => some st
  | some (.own d), .fz => fzRow st d
  | _, _ => none
def cos (st : St) : List (Nat × Nat × Co) -> Option St
 | [] => some st
 | (s, j, c) :: r => match (if s < 1000000 then co1 st s j c else qQc st (s - 1000000) j c) with
  | some st' => cos st' r
  | none => none
def keepSlots (ks : List Nat) (l : List (Nat × SV)) : List (Nat × SV) := l.filter fun x => ks.contains x.1
def SV.anyC (p : CV -> Bool) : SV -> Bool
 | .c x => x.says p
 | .agg xs => xs.any (CV.says p)
 | .tup xs => xs.any fun | .c x => x.says p | .agg ys => ys.any (CV.says p) | _ => false
 | .clo _ _ xs => xs.any (CV.says p)
 | .undef => false
def usedBoxes (st : St) : List (Nat × Box) := st.boxes.filter fun b => st.lentB.contains b.1 || st.slots.any (fun x => x.2.anyC (CV.pts b.1)) || st.boxes.any fun b' => b'.2.cs.any (CV.says (CV.pts b.1))
def usedRows (st : St) : List (Nat × Row) := st.rows.filter fun r => st.lentR.contains r.1 || st.slots.any (fun x => x.2.anyC (CV.speaks r.1)) || st.boxes.any fun b => b.2.cs.any (CV.says (CV.speaks r.1))
def qCL (keep : List Nat) (cs : List (Nat × Nat × Co)) (st : St) : Option St :=
 let st1 : St := { st with slots := keepSlots keep st.slots }
 match cos st1 cs with
 | none => none
 | some st2 =>
  let st3 : St := { st2 with boxes := usedBoxes st2 }
  let st4 : St := { st3 with boxes := usedBoxes st3 }
  some { st4 with rows := usedRows st4 }
inductive X where
 | normal | exit (id : Nat) | ret
abbrev CallF := FuncId -> List SV -> (RES -> Prop) -> Prop
def callee (st : St) (c : Call) : Option (FuncId × List SV) := match qGh C st c.argTypes.toList c.args.toList with
 | none => none
 | some vs => match c.callee with
  | .value f => match opv st f with
   | some (.c (.fn g sh n cs)) =>
    let rec un : List (Bool × Nat) -> List CV -> List SV
     | [], _ => []
     | (true, k) :: r, cs => .agg (cs.take k) :: un r (cs.drop k)
     | (false, _) :: r, cs => (match cs with | x :: _ => SV.c x | [] => .undef) :: un r (cs.drop 1)
    some (g, (un sh cs).take n ++ vs ++ (un sh cs).drop n)
   | _ => none
  | _ => none
def St.setO (st : St) (d : Option Nat) (v : SV) : St := match d with
 | some s => st.set s v
 | none => st
def grd (g : Bool) (p : Prop) : Prop := match g with
 | true => p
 | false => False
variable (call : CallF)
def qIE (st : St) (o : Oper) (K : St -> Prop) : Prop :=
 let plain : Prop := match jY C st o with
  | some r => grd r.g (K (r.st.setO o.dst r.v))
  | none => False
 match o.op with
 | .call c => match c.callee with
  | .builtin _ => plain
  | _ => match callee C st c with
   | some (f, args) => match jS st (C.fi f).modes args with
    | some e => grd e.ok (call f e.args fun r => match kU e (o.dst.getD 0) r with
     | some (v, st') => K (st'.setO o.dst v)
     | none => False)
    | none => False
   | none => False
 | .binOp op xt x y _ => if qJL y /\ (op = .eql \/ op = .neq) then
   match opv st x with
   | some (.c a) => match qCy st a, qJ3 C xt, xL st a with
    | some n, some _, some _ => (n = 0 -> K (st.setO o.dst (.c (.bool (op == .eql))))) /\ K (st.setO o.dst (.c (.bool (!(op == .eql)))))
    | _, _, _ => False
   | _ => False
  else plain
 | .next it true => match opv st it with
  | some (.c (.pbox b 0)) => match qL b st.boxes with
   | some x => match x.cs with
    | [.str s, .int .i64 p] => if x.it = true /\ x.ro = false then (if decide (p < (s.length : Int)) = true then
      grd (decide ((List.getD s p.toNat 0).toNat < 128)) (K ({ st with boxes := put b { x with cs := [.str s, .int .i64 (p + 1)] } st.boxes }.setO o.dst (.tup [.c (.bool true), .c (.int .i64 p), .c (.int .i32 ((List.getD s p.toNat 0).toNat : Int))])))
     else K (st.setO o.dst (.tup [.c (.bool false)]))) else False
    | _ => False
   | none => False
  | _ => False
 | _ => plain
def evG (ops : Array Oper) (st : St) (i : Nat) (K : St -> Prop) : Prop := match ops[i]? with
 | none => K st
 | some o => match o.guard with
  | none => qIE C call st o K
  | some (g, want) => match (ops[g]?).bind (·.dst) with
   | none => False
   | some t => match qL t st.slots with
    | some (.c (.bool b)) => if b = want then qIE C call (st.set t (.c (.bool want))) o K else K ((st.set t (.c (.bool (!want)))).setO o.dst .undef)
    | some .undef => K (st.setO o.dst .undef)
    | _ => False
def qIs (ops : Array Oper) : List Nat -> St -> (St -> Prop) -> Prop
 | [], st, K => K st
 | i :: r, st, K => evG C call ops st i fun st' => qIs ops r st' K
inductive Kd where
 | blind | reads | eff
 deriving DecidableEq
def Oper.kd (C : Ctx) (o : Oper) : Kd := match o.op with
 | .store .. | .box .. | .alloc _ | .buildSlice .. | .makeSlice .. => .eff
 | .load .. => .reads
 | .convert s t _ => match C.ti s, C.ti t with
  | some j, some i => match i.sty, j.sty with
   | some (.int _), _ => .blind
   | some .str, some .str => .blind
   | some .str, _ => .reads
   | _, _ => .eff
  | _, _ => .eff
 | .call c => match c.callee with
  | .builtin .len | .builtin .min | .builtin .max => .blind
  | _ => .eff
 | .move _ | .assign _ | .pick .. | .binOp .. | .unOp .. | .nilCheck _ | .fieldAddr .. | .field .. | .extract .. | .indexAddr .. | .index .. | .slice .. | .makeFunc .. => .blind
 | .build .. => .blind
 | _ => .eff
def qER (ops : Array Oper) (i : Nat) : Nat -> Nat -> Bool
 | 0, _ => false
 | n + 1, k => match ops[k]? with
  | some o => o.after.any fun e => Region.binds .any e && (e.on == i || qER ops i n e.on)
  | none => false
def Oper.ld (o : Oper) : Bool := match o.op with
 | .load .. => true
 | _ => false
def Oper.al (C : Ctx) (o : Oper) : Bool := match o.op with
 | .alloc _ => true
 | .call c => match c.callee with
  | .value (.func g) => (C.fi g).modes.all (· == 0)
  | _ => false
 | _ => false
def Region.first (C : Ctx) (ops : Array Oper) (listed : Array Bool) (i : Nat) : Bool := match ops[i]? with
 | none => false
 | some o => match Oper.kd C o with
  | Kd.blind => true
  | Kd.reads => (List.range ops.size).all fun j => j == i || listed.getD j true || (match ops[j]? with | some p => !decide (Oper.kd C p = Kd.eff) || (Oper.ld o && Oper.al C p) | none => true) || qER ops i ops.size j
  | Kd.eff => false
def Region.neat (ops : Array Oper) : Bool := Region.noSelect ops && (List.range ops.size).all fun i => match ops[i]? with
 | none => true
 | some oi => (List.range ops.size).all fun j => j == i || match ops[j]? with
  | none => true
  | some oj => oj.after.any (fun e => Region.binds .any e && e.on == i) || oi.after.any (fun e => Region.binds .any e && e.on == j) || oi.apart ops oj
def qNV (p : Nat -> Prop) : List Nat -> Prop
 | [] => True
 | [i] => p i
 | i :: r => p i /\ qNV p r
def qCb (ops : Array Oper) : Nat -> Array Bool -> St -> (St -> Prop) -> Prop
 | 0, listed, st, K => match Region.ready .any ops listed with
  | [] => K st
  | _ => False
 | n + 1, listed, st, K => match Region.ready .any ops listed with
  | [] => K st
  | i :: r => match (i :: r).find? (fun j => Region.first C ops listed j) with
   | some j => evG C call ops st j fun st' => qCb ops n (listed.setIfInBounds j true) st' K
   | none => qNV (fun j => evG C call ops st j fun st' => qCb ops n (listed.setIfInBounds j true) st' K) (i :: r)
def zV : Code -> Nat
 | .region id _ _ => id
 | .seq a _ => zV a
 | .block _ a => zV a
 | .loop a => zV a
 | _ => 0
def qT (k : Nat) : Code -> Option Code
 | .loop a => if zV a = k then some a else qT k a
 | .seq a b => match qT k a with
  | some c => some c
  | none => qT k b
 | .block _ a => qT k a
 | .cond _ a b => match qT k a with
  | some c => some c
  | none => qT k b
 | _ => none
def jG : Code -> Nat
 | .region id _ _ => id
 | .seq a b => if jG a = 0 then jG b else jG a
 | .block _ a => jG a
 | .loop a => jG a
 | .cond _ a b => if jG a = 0 then jG b else jG a
 | _ => 0
def qY (k : Nat) : Code -> Option Code
 | .seq a b => if jG b = k then some b else match qY k a with
  | some c => some c
  | none => qY k b
 | .loop a => qY k a
 | .block _ a => qY k a
 | .cond _ a b => match qY k a with
  | some c => some c
  | none => qY k b
 | _ => none
abbrev kW := Nat -> St -> (X -> St -> Prop) -> Prop
def vN (k : qPQ) (st : St) (P : St -> Prop) : Prop := match qCL k.ks k.cos st with
 | some st' => P st'
 | none => False
def qLP (nt : Nat) (ops : Array Oper) : Bool := ops.all fun o => match o.dst with
 | some d => decide (d < nt)
 | none => true
def evC (nt : Nat) (fi : Fi) (lp : kW) : Code -> St -> (X -> St -> Prop) -> Prop
 | .skip, st, K => K .normal st
 | .region _ ops draw, st, K => match qLP nt ops with
  | false => False
  | true =>
  if draw then (match Region.neat ops with
   | true => qCb C call ops ops.size (Array.replicate ops.size false) st (K .normal)
   | false => False)
  else qIs C call ops (List.range ops.size) st (K .normal)
 | .seq a b, st, K => evC nt fi lp a st fun e st' => match e with
  | .normal => (match qL (1000000 + jG b) fi.loops with
   | none => evC nt fi lp b st' K
   | some li => vN li.head st' fun st0 => lp (1000000 + jG b) st0 K)
  | e => K e st'
 | .cond c a b, st, K => match opv st c with
  | some (.c (.bool t)) => match c with
   | .tmp s => if t = true then evC nt fi lp a (st.set s (.c (.bool true))) K else evC nt fi lp b (st.set s (.c (.bool false))) K
   | _ => if t = true then evC nt fi lp a st K else evC nt fi lp b st K
  | _ => False
 | .block id a, st, K => evC nt fi lp a st fun e st' => match e with
  | .exit j => if j = id then K .normal st' else K (.exit j) st'
  | e => K e st'
 | .loop a, st, K => if 1000000 <= zV a then False else match qL (zV a) fi.loops with
  | some li => vN li.head st fun st0 => lp (zV a) st0 K
  | none => False
 | .exit id, st, K => K (.exit id) st
 | .ret, st, K => K .ret st
 | _, _, _ => False
end
structure qQE where
 call : CallF
 loop : FuncId -> kW
def qBR (li : Li) (again : St -> Prop) (K : X -> St -> Prop) : X -> St -> Prop := fun e st' => match e with
 | .normal => vN li.head st' again
 | .exit j => match qL j li.exits with
  | some k => vN k st' (K (.exit j))
  | none => False
 | .ret => vN li.ret st' (K .ret)
def qLS (li : Li) (K : X -> St -> Prop) : X -> St -> Prop := fun e st' => match e with
 | .normal => (match qL 1000000 li.exits with
  | some k => vN k st' (K .normal)
  | none => False)
 | .exit j => (match qL j li.exits with
  | some k => vN k st' (K (.exit j))
  | none => False)
 | .ret => vN li.ret st' (K .ret)
def qCc (C : Ctx) (fn : Func) (fi : Fi) (args : List SV) (K : RES -> Prop) : X -> St -> Prop := fun e st => match e with
 | .exit _ => False
 | _ => match qJB C fn fi.modes fi.rets args st with
  | some r => K r
  | none => False
def qB9 (C : Ctx) (X0 : CallF) : Nat -> qQE
 | 0 => ⟨fun _ _ _ => False, fun _ _ _ _ => False⟩
 | n + 1 =>
  ⟨fun f args K => match C.fs f with
   | none => X0 f args K
   | some fn => match fn.body with
    | none => X0 f args K
    | some c => evC C (qB9 C X0 n).call fn.ntmps (C.fi f) ((qB9 C X0 n).loop f) c (enter (C.fi f).modes args) (qCc C fn (C.fi f) args K),
   fun f key st K => match C.fs f with
   | none => False
   | some fn => match fn.body with
    | none => False
    | some c => if 1000000 <= key then (match qY (key - 1000000) c, qL key (C.fi f).loops with
     | some b, some li => evC C (qB9 C X0 n).call fn.ntmps (C.fi f) ((qB9 C X0 n).loop f) b st (qLS li K)
     | _, _ => False) else match qT key c, qL key (C.fi f).loops with
     | some a, some li => evC C (qB9 C X0 n).call fn.ntmps (C.fi f) ((qB9 C X0 n).loop f) a st (qBR li (fun st' => (qB9 C X0 n).loop f key st' K) K)
     | _, _ => False⟩
theorem yE {g : Bool} {p q : Prop} (h : p -> q) : grd g p -> grd g q := by
 cases g
 ·exact id
 ·exact h
def CallF.Mono (call : CallF) : Prop := ∀ f a (K K' : RES -> Prop), (∀ r, K r -> K' r) -> call f a K -> call f a K'
def kW.Mono (lp : kW) : Prop := ∀ k st (K K' : X -> St -> Prop), (∀ e s, K e s -> K' e s) -> lp k st K -> lp k st K'
section
variable {C : Ctx} {call call' : CallF} (hc : ∀ f a K, call f a K -> call' f a K) (hm : CallF.Mono call')
include hc hm
theorem qFG (st : St) (o : Oper) {K K' : St -> Prop} (hk : ∀ s, K s -> K' s) (h : qIE C call st o K) : qIE C call' st o K' := by
 have plain : (match jY C st o with
  | some r => grd r.g (K (r.st.setO o.dst r.v))
  | none => False) -> (match jY C st o with
  | some r => grd r.g (K' (r.st.setO o.dst r.v))
  | none => False) := by
  cases jY C st o with
  | none => exact id
  | some r => exact yE (hk _)
 unfold qIE at h ⊢
 revert h
 cases o.op with
 | call c =>
  simp only []
  cases c.callee with
  | builtin b => exact plain
  | value f =>
   simp only []
   cases callee C st c with
   | none => exact id
   | some p =>
    obtain ⟨f, args⟩ := p
    simp only []
    cases jS st (C.fi f).modes args with
    | none => exact id
    | some e =>
     simp only []
     refine yE fun h => ?_
     refine hm _ _ _ _ (fun r => ?_) (hc _ _ _ h)
     cases kU e (o.dst.getD 0) r with
     | none => exact id
     | some q => exact hk _
  | invoke a b =>
   simp only []
   cases callee C st c with
   | none => exact id
   | some p =>
    obtain ⟨f, args⟩ := p
    simp only []
    cases jS st (C.fi f).modes args with
    | none => exact id
    | some e =>
     simp only []
     refine yE fun h => ?_
     refine hm _ _ _ _ (fun r => ?_) (hc _ _ _ h)
     cases kU e (o.dst.getD 0) r with
     | none => exact id
     | some q => exact hk _
 | binOp op t x y t' =>
  simp only []
  split
  ·cases opv st x with
   | none => exact id
   | some v =>
    cases v with
    | c a =>
     simp only []
     cases qCy st a with
     | none => exact id
     | some n =>
      cases qJ3 C t with
      | none => exact id
      | some q =>
       cases xL st a with
       | none => exact id
       | some z => exact fun ⟨h1, h2⟩ => ⟨fun h0 => hk _ (h1 h0), hk _ h2⟩
    | _ => exact id
  ·exact plain
 | next it isS =>
  cases isS with
  | false => exact plain
  | true =>
   simp only []
   split
   ·split
    ·split
     ·split
      ·split
       ·exact yE fun h => hk _ h
       ·exact hk _
      ·exact id
     ·exact id
    ·exact id
   ·exact id
 | _ => exact plain
theorem qEp (ops : Array Oper) (st : St) (i : Nat) {K K' : St -> Prop} (hk : ∀ s, K s -> K' s) (h : evG C call ops st i K) : evG C call' ops st i K' := by
 unfold evG at h ⊢
 revert h
 cases ops[i]? with
 | none => exact hk _
 | some o =>
  simp only []
  cases o.guard with
  | none => exact qFG hc hm _ _ hk
  | some p =>
   obtain ⟨g, want⟩ := p
   simp only []
   cases (ops[g]?).bind (·.dst) with
   | none => exact id
   | some t =>
    simp only []
    cases qL t st.slots with
    | none => exact id
    | some v =>
     cases v with
     | c x =>
      cases x with
      | bool b =>
       simp only []
       split
       ·exact qFG hc hm _ _ hk
       ·exact hk _
      | _ => exact id
     | undef => exact hk _
     | _ => exact id
theorem qDK (ops : Array Oper) : ∀ (l : List Nat) (st : St) {K K' : St -> Prop}, (∀ s, K s -> K' s) -> qIs C call ops l st K -> qIs C call' ops l st K'
 | [], st, _, _, hk, h => hk _ h
 | i :: r, st, _, _, hk, h => qEp hc hm ops st i (fun s => qDK ops r s hk) h
omit hc hm in
theorem qFM {p q : Nat -> Prop} (h : ∀ i, p i -> q i) : ∀ l, qNV p l -> qNV q l
 | [], _ => trivial
 | [i], hp => h i hp
 | i :: j :: r, hp => ⟨h i hp.1, qFM h (j :: r) hp.2⟩
theorem qBI (ops : Array Oper) : ∀ (n : Nat) (l : Array Bool) (st : St) {K K' : St -> Prop}, (∀ s, K s -> K' s) -> qCb C call ops n l st K -> qCb C call' ops n l st K'
 | 0, l, st, _, _, hk, h => by
  unfold qCb at h ⊢
  revert h
  cases Region.ready .any ops l with
  | nil => exact hk _
  | cons i r => exact fun h => h
 | n + 1, l, st, K, K', hk, h => by
  unfold qCb at h ⊢
  revert h
  cases Region.ready .any ops l with
  | nil => exact hk _
  | cons i r =>
   simp only []
   cases List.find? (fun j => Region.first C ops l j) (i :: r) with
   | none => exact qFM (fun j => qEp hc hm ops st j fun s => qBI ops n _ s hk) _
   | some j => exact qEp hc hm ops st j fun s => qBI ops n _ s hk
theorem qAj {nt : Nat} {fi : Fi} {lp lp' : kW} (hl : ∀ k st K, lp k st K -> lp' k st K) (hlm : kW.Mono lp') :
  ∀ (c : Code) (st : St) {K K' : X -> St -> Prop}, (∀ e s, K e s -> K' e s) -> evC C call nt fi lp c st K -> evC C call' nt fi lp' c st K' := by
 intro c
 induction c with
 | skip => intro st K K' hk h; exact hk _ _ h
 | region id ops draw =>
  intro st K K' hk h
  unfold evC at h ⊢
  revert h
  cases qLP nt ops with
  | false => exact fun h => h
  | true =>
   intro h
   cases draw
   ·exact qDK hc hm _ _ _ (hk _) h
   ·revert h
    simp only [if_true]
    cases Region.neat ops with
    | false => exact fun h => h
    | true => exact qBI hc hm _ _ _ _ (hk _)
 | seq a b iha ihb =>
  intro st K K' hk h
  unfold evC at h ⊢
  refine iha st (fun e s => ?_) h
  cases e with
  | normal =>
   simp only []
   cases qL (1000000 + jG b) fi.loops with
   | none => exact ihb s hk
   | some li =>
    simp only [vN]
    cases qCL li.head.ks li.head.cos s with
    | none => exact id
    | some s => exact fun h => hlm _ _ _ _ hk (hl _ _ _ h)
  | exit i => exact hk _ _
  | ret => exact hk _ _
 | cond c a b iha ihb =>
  intro st K K' hk h
  unfold evC at h ⊢
  revert h
  cases opv st c with
  | none => exact id
  | some v =>
   cases v with
   | c x =>
    cases x with
    | bool t =>
     simp only []
     cases c with
     | tmp s =>
      simp only []
      split
      ·exact iha _ hk
      ·exact ihb _ hk
     | _ =>
      simp only []
      split
      ·exact iha _ hk
      ·exact ihb _ hk
    | _ => exact id
   | _ => exact id
 | block id a iha =>
  intro st K K' hk h
  unfold evC at h ⊢
  refine iha st (fun e s => ?_) h
  cases e with
  | normal => exact hk _ _
  | exit j => simp only []; split <;> exact hk _ _
  | ret => exact hk _ _
 | loop a iha =>
  intro st K K' hk h
  unfold evC at h ⊢
  revert h
  split
  ·exact id
  cases qL (zV a) fi.loops with
  | none => exact id
  | some li =>
   simp only [vN]
   cases qCL li.head.ks li.head.cos st with
   | none => exact id
   | some s => exact fun h => hlm _ _ _ _ hk (hl _ _ _ h)
 | exit id => intro st K K' hk h; exact hk _ _ h
 | ret => intro st K K' hk h; exact hk _ _ h
 | _ => intro st K K' hk h; exact h
end
theorem qCH {li : Li} {again again' : St -> Prop} {K K' : X -> St -> Prop} (ha : ∀ s, again s -> again' s) (hk : ∀ e s, K e s -> K' e s) (e : X) (s : St) :
  qBR li again K e s -> qBR li again' K' e s := by
 unfold qBR
 cases e with
 | normal => simp only [vN]; cases qCL li.head.ks li.head.cos s with
  | none => exact id
  | some s => exact ha s
 | exit j => simp only []; cases qL j li.exits with
  | none => exact id
  | some k => simp only [vN]; cases qCL k.ks k.cos s with
   | none => exact id
   | some s => exact hk _ s
 | ret => simp only [vN]; cases qCL li.ret.ks li.ret.cos s with
  | none => exact id
  | some s => exact hk _ s
theorem qFK {li : Li} {K K' : X -> St -> Prop} (hk : ∀ e s, K e s -> K' e s) (e : X) (s : St) : qLS li K e s -> qLS li K' e s := by
 unfold qLS
 cases e with
 | normal => simp only []; cases qL 1000000 li.exits with
  | none => exact id
  | some k => simp only [vN]; cases qCL k.ks k.cos s with
   | none => exact id
   | some s => exact hk _ s
 | exit j => simp only []; cases qL j li.exits with
  | none => exact id
  | some k => simp only [vN]; cases qCL k.ks k.cos s with
   | none => exact id
   | some s => exact hk _ s
 | ret => simp only [vN]; cases qCL li.ret.ks li.ret.cos s with
  | none => exact id
  | some s => exact hk _ s
theorem qIA {C : Ctx} {fn : Func} {fi : Fi} {args : List SV} {K K' : RES -> Prop} (hk : ∀ r, K r -> K' r) (e : X) (s : St) :
  qCc C fn fi args K e s -> qCc C fn fi args K' e s := by
 unfold qCc
 cases e with
 | exit j => exact id
 | normal => simp only []; cases qJB C fn fi.modes fi.rets args s with
  | none => exact id
  | some r => exact hk r
 | ret => simp only []; cases qJB C fn fi.modes fi.rets args s with
  | none => exact id
  | some r => exact hk r
theorem kR (C : Ctx) {X0 : CallF} (hX : CallF.Mono X0) : ∀ n, CallF.Mono (qB9 C X0 n).call /\ ∀ f, kW.Mono ((qB9 C X0 n).loop f)
 | 0 => ⟨fun _ _ _ _ _ h => h, fun _ _ _ _ _ _ h => h⟩
 | n + 1 => by
  obtain ⟨ih1, ih2⟩ := kR C hX n
  constructor
  ·intro f a K K' hk
   show (match C.fs f with | none => X0 f a K | some fn => _) -> (match C.fs f with | none => X0 f a K' | some fn => _)
   cases C.fs f with
   | none => exact hX _ _ _ _ hk
   | some fn =>
    simp only []
    cases fn.body with
    | none => exact hX _ _ _ _ hk
    | some c => exact qAj (fun _ _ _ h => h) ih1 (fun _ _ _ h => h) (ih2 f) c _ (qIA hk)
  ·intro f k st K K' hk
   show (match C.fs f with | none => False | some fn => _) -> (match C.fs f with | none => False | some fn => _)
   cases C.fs f with
   | none => exact id
   | some fn =>
    simp only []
    cases fn.body with
    | none => exact id
    | some c =>
     simp only []
     split
     ·cases qY (k - 1000000) c with
      | none => exact id
      | some b =>
       cases qL k (C.fi f).loops with
       | none => exact id
       | some li => exact qAj (fun _ _ _ h => h) ih1 (fun _ _ _ h => h) (ih2 f) b _ (qFK hk)
     cases qT k c with
     | none => exact id
     | some a =>
      cases qL k (C.fi f).loops with
      | none => exact id
      | some li => exact qAj (fun _ _ _ h => h) ih1 (fun _ _ _ h => h) (ih2 f) a _ (qCH (fun s => ih2 f _ _ _ _ hk) hk)
def callM (C : Ctx) (X0 : CallF) (n : Nat) : CallF := (qB9 C X0 n).call
def yP (C : Ctx) (X0 : CallF) (n : Nat) : FuncId -> kW := (qB9 C X0 n).loop
theorem qM0 {C : Ctx} {X0 : CallF} (hX : CallF.Mono X0) {n : Nat} {f : FuncId} {args : List SV} {K : RES -> Prop} {fn : Func} {c : Code}
  (hf : C.fs f = some fn) (hb : fn.body = some c) {call : CallF} {lp : kW} (hc : ∀ g a K, call g a K -> callM C X0 n g a K)
  (hl : ∀ k st K, lp k st K -> yP C X0 n f k st K)
  {P : Prop} (he : P = evC C call fn.ntmps (C.fi f) lp c (enter (C.fi f).modes args) (qCc C fn (C.fi f) args K)) (h : P) : callM C X0 (n + 1) f args K := by
 rw [he] at h
 show (match C.fs f with | none => X0 f args K | some fn => _)
 rw [hf]
 show (match fn.body with | none => X0 f args K | some c => _)
 rw [hb]
 exact qAj hc (kR C hX n).1 hl ((kR C hX n).2 f) c _ (fun _ _ h => h) h
theorem qMI {C : Ctx} {X0 : CallF} (hX : CallF.Mono X0) {n : Nat} {f : FuncId} {k : Nat} {st : St} {K : X -> St -> Prop} {fn : Func} {c a : Code} {li : Li}
  (hf : C.fs f = some fn) (hb : fn.body = some c) (hk : k < 1000000) (ha : qT k c = some a) (hli : qL k (C.fi f).loops = some li)
  {call : CallF} {lp : kW} {again : St -> Prop} (hc : ∀ g a K, call g a K -> callM C X0 n g a K)
  (hl : ∀ k st K, lp k st K -> yP C X0 n f k st K) (hag : ∀ s, again s -> yP C X0 n f k s K)
  {P : Prop} (he : P = evC C call fn.ntmps (C.fi f) lp a st (qBR li again K)) (h : P) : yP C X0 (n + 1) f k st K := by
 rw [he] at h
 show (match C.fs f with | none => False | some fn => _)
 rw [hf]
 show (match fn.body with | none => False | some c => _)
 rw [hb]
 show (if 1000000 <= k then _ else (match qT k c, qL k (C.fi f).loops with | some a, some li => _ | _, _ => False))
 rw [if_neg (by omega), ha, hli]
 exact qAj hc (kR C hX n).1 hl ((kR C hX n).2 f) a _ (qCH hag fun _ _ h => h) h
theorem qNS {C : Ctx} {X0 : CallF} (hX : CallF.Mono X0) {n : Nat} {f : FuncId} {k : Nat} {st : St} {K : X -> St -> Prop} {fn : Func} {c a : Code} {li : Li}
  (hf : C.fs f = some fn) (hb : fn.body = some c) (hk : 1000000 <= k) (ha : qY (k - 1000000) c = some a) (hli : qL k (C.fi f).loops = some li)
  {call : CallF} {lp : kW} (hc : ∀ g a K, call g a K -> callM C X0 n g a K) (hl : ∀ k st K, lp k st K -> yP C X0 n f k st K)
  {P : Prop} (he : P = evC C call fn.ntmps (C.fi f) lp a st (qLS li K)) (h : P) : yP C X0 (n + 1) f k st K := by
 rw [he] at h
 show (match C.fs f with | none => False | some fn => _)
 rw [hf]
 show (match fn.body with | none => False | some c => _)
 rw [hb]
 show (if 1000000 <= k then (match qY (k - 1000000) c, qL k (C.fi f).loops with | some a, some li => _ | _, _ => False) else _)
 rw [if_pos hk, ha, hli]
 exact qAj hc (kR C hX n).1 hl ((kR C hX n).2 f) a _ (qFK fun _ _ h => h) h
attribute [irreducible] callM yP
def jC {α β : Type} (R : α -> β -> Prop) : List α -> List β -> Prop
 | [], [] => True
 | a :: l, b :: r => R a b /\ jC R l r
 | _, _ => False
theorem jC.length {α β : Type} {R : α -> β -> Prop} : ∀ {l : List α} {r : List β}, jC R l r -> l.length = r.length
 | [], [], _ => rfl
 | _ :: _, _ :: _, h => by simp [jC.length h.2]
theorem jC.imp {α β : Type} {R S : α -> β -> Prop} (h : ∀ a b, R a b -> S a b) : ∀ {l : List α} {r : List β}, jC R l r -> jC S l r
 | [], [], _ => trivial
 | _ :: _, _ :: _, p => ⟨h _ _ p.1, jC.imp h p.2⟩
theorem jC.append {α β : Type} {R : α -> β -> Prop} : ∀ {l : List α} {r : List β} {l' : List α} {r' : List β}, jC R l r -> jC R l' r' -> jC R (l ++ l') (r ++ r')
 | [], [], _, _, _, h => h
 | _ :: _, _ :: _, _, _, p, h => ⟨p.1, jC.append p.2 h⟩
theorem jC.split {α β : Type} {R : α -> β -> Prop} : ∀ {l l' : List α} {r : List β}, jC R (l ++ l') r -> ∃ r1 r2, r = r1 ++ r2 /\ jC R l r1 /\ jC R l' r2
 | [], _, r, h => ⟨[], r, rfl, trivial, h⟩
 | _ :: l, l', b :: r, h => by
  obtain ⟨r1, r2, rfl, h1, h2⟩ := jC.split (l := l) h.2
  exact ⟨b :: r1, r2, rfl, ⟨h.1, h1⟩, h2⟩
theorem jC.take {α β : Type} {R : α -> β -> Prop} : ∀ {l : List α} {r : List β} (n : Nat), jC R l r -> jC R (l.take n) (r.take n)
 | [], [], n, _ => by simp [jC]
 | _ :: _, _ :: _, 0, _ => by simp [jC]
 | _ :: _, _ :: _, n + 1, h => ⟨h.1, jC.take n h.2⟩
theorem jC.drop {α β : Type} {R : α -> β -> Prop} : ∀ {l : List α} {r : List β} (n : Nat), jC R l r -> jC R (l.drop n) (r.drop n)
 | [], [], n, _ => by simp [jC]
 | _ :: _, _ :: _, 0, h => by simpa [jC] using h
 | _ :: _, _ :: _, n + 1, h => by simpa using jC.drop n h.2
theorem jC.get {α β : Type} {R : α -> β -> Prop} : ∀ {l : List α} {r : List β} {i : Nat} {a : α}, jC R l r -> l[i]? = some a -> ∃ b, r[i]? = some b /\ R a b
 | [], [], i, a, _, h => by simp at h
 | x :: _, y :: _, 0, a, p, h => ⟨y, by simp, by simp at h; exact h ▸ p.1⟩
 | x :: l, y :: r, i + 1, a, p, h => by
  obtain ⟨b, hb, hr⟩ := jC.get (i := i) p.2 (by simpa using h)
  exact ⟨b, by simpa using hb, hr⟩
theorem jC.set {α β : Type} {R : α -> β -> Prop} : ∀ {l : List α} {r : List β} (i : Nat) {a : α} {b : β}, jC R l r -> R a b -> jC R (l.set i a) (r.set i b)
 | [], [], _, _, _, _, _ => trivial
 | _ :: _, _ :: _, 0, _, _, p, h => ⟨h, p.2⟩
 | _ :: _, _ :: _, i + 1, _, _, p, h => ⟨p.1, jC.set i p.2 h⟩
def qV (w : World) (b off : Nat) (vs : List Value) : Prop := ∀ j (h : j < vs.length), w.cell? ⟨b, off + j, none⟩ = some vs[j]
def qC (S : Nat -> Prop) (w w' : World) : Prop := ∀ b o, S b -> w.heap[b]? = some o -> w'.heap[b]? = some o
theorem qC.refl (S : Nat -> Prop) (w : World) : qC S w w := fun _ _ _ h => h
theorem qC.trans {S : Nat -> Prop} {w w' w'' : World} (h : qC S w w') (h' : qC S w' w'') : qC S w w'' := fun b o hs hb => h' b o hs (h b o hs hb)
theorem qC.mono {S T : Nat -> Prop} {w w' : World} (h : qC T w w') (hs : ∀ b, S b -> T b) : qC S w w' := fun b o hb => h b o (hs b hb)
theorem jV {w : World} {b o : Nat} {v : Value} : w.cell? ⟨b, o, none⟩ = some v ↔ ∃ cs e fr, w.heap[b]? = some (.cells cs e fr) /\ cs[o]? = some v := by
 unfold World.cell?
 simp only []
 split
 ·rename_i c e fr h
  simp [h]
 ·rename_i h
  constructor
  ·intro h'; cases h'
  ·rintro ⟨cs, e, fr, h1, _⟩; exact absurd h1 (h _ _ _)
theorem qC.cell {S : Nat -> Prop} {w w' : World} {b o : Nat} {v : Value} (h : qC S w w') (hs : S b) (hc : w.cell? ⟨b, o, none⟩ = some v) : w'.cell? ⟨b, o, none⟩ = some v := by
 rw [jV] at hc ⊢
 obtain ⟨cs, e, fr, h1, h2⟩ := hc
 exact ⟨cs, e, fr, h b _ hs h1, h2⟩
theorem qC.cellsAt {S : Nat -> Prop} {w w' : World} {b off : Nat} {vs : List Value} (h : qC S w w') (hs : S b) (hc : qV w b off vs) : qV w' b off vs :=
 fun j hj => h.cell hs (hc j hj)
def Rd (F : Nat -> Prop) (w : World) : (t : Ty) -> t.T -> List Value -> Prop
 | .int k, n, vs => vs = [.int k n]
 | .bool, b, vs => vs = [.bool b]
 | .str, s, vs => vs = [.string ⟨⟨s⟩⟩]
 | .unit, _, vs => vs = []
 | .prod a b, p, vs => ∃ v1 v2, vs = v1 ++ v2 /\ Rd F w a p.1 v1 /\ Rd F w b p.2 v2
 | .ptr _ t, x, vs => ∃ b off cs, vs = [.pointer (some ⟨b, off, none⟩)] /\ F b /\ qV w b off cs /\ Rd F w t x cs
 | .sl _ t, l, vs => ∃ a c, vs = [.slice a l.length c] /\ l.length <= c /\ ∀ i (h : i < l.length), ∃ b off cs, a = some ⟨b, off, none⟩ /\ F b /\ qV w b (off + i * t.sz) cs /\ Rd F w t l[i] cs
def qDd (F : Nat -> Prop) (w : World) (t : Ty) (l : List t.T) (v : Value) : Prop :=
 ∃ a c, v = .slice a l.length c /\ l.length <= c /\ ∀ i (h : i < l.length), ∃ b off cs, a = some ⟨b, off, none⟩ /\ F b /\ qV w b (off + i * t.sz) cs /\ Rd F w t l[i] cs
theorem kB {F : Nat -> Prop} {w : World} {e : TypeId} {t : Ty} {l : List t.T} {vs : List Value} : Rd F w (.sl e t) l vs ↔ ∃ v, vs = [v] /\ qDd F w t l v := by
 constructor
 ·rintro ⟨a, c, rfl, h⟩; exact ⟨_, rfl, a, c, rfl, h⟩
 ·rintro ⟨_, rfl, a, c, rfl, h⟩; exact ⟨a, c, rfl, h⟩
theorem qB7 {F : Nat -> Prop} {w : World} : ∀ {t : Ty} {x : t.T} {vs : List Value}, Rd F w t x vs -> vs.length = t.sz
 | .int _, _, _, h => by rw [Rd] at h; subst h; rfl
 | .bool, _, _, h => by rw [Rd] at h; subst h; rfl
 | .str, _, _, h => by rw [Rd] at h; subst h; rfl
 | .unit, _, _, h => by rw [Rd] at h; subst h; rfl
 | .prod a b, _, _, h => by
  rw [Rd] at h
  obtain ⟨v1, v2, rfl, h1, h2⟩ := h
  simp [Ty.sz, qB7 h1, qB7 h2]
 | .ptr _ _, _, _, h => by rw [Rd] at h; obtain ⟨_, _, _, rfl, _⟩ := h; rfl
 | .sl _ _, _, _, h => by rw [Rd] at h; obtain ⟨_, _, rfl, _⟩ := h; rfl
theorem zK {F F' : Nat -> Prop} {w w' : World} (hF : ∀ b, F b -> F' b) (ha : qC F w w') : ∀ {t : Ty} {x : t.T} {vs : List Value}, Rd F w t x vs -> Rd F' w' t x vs
 | .int _, _, _, h => by rw [Rd] at h ⊢; exact h
 | .bool, _, _, h => by rw [Rd] at h ⊢; exact h
 | .str, _, _, h => by rw [Rd] at h ⊢; exact h
 | .unit, _, _, h => by rw [Rd] at h ⊢; exact h
 | .prod a b, _, _, h => by
  rw [Rd] at h ⊢
  obtain ⟨v1, v2, e, h1, h2⟩ := h
  exact ⟨v1, v2, e, zK hF ha h1, zK hF ha h2⟩
 | .ptr _ t, _, _, h => by
  rw [Rd] at h ⊢
  obtain ⟨b, off, cs, e, h1, h2, h3⟩ := h
  exact ⟨b, off, cs, e, hF _ h1, ha.cellsAt h1 h2, zK hF ha h3⟩
 | .sl _ t, l, _, h => by
  rw [Rd] at h ⊢
  obtain ⟨a, c, e, h0, h1⟩ := h
  refine ⟨a, c, e, h0, fun i hi => ?_⟩
  obtain ⟨b, off, cs, e2, h2, h3, h4⟩ := h1 i hi
  exact ⟨b, off, cs, e2, hF _ h2, ha.cellsAt h2 h3, zK hF ha h4⟩
theorem vX {F F' : Nat -> Prop} {w w' : World} (hF : ∀ b, F b -> F' b) (ha : qC F w w') {t : Ty} {l : List t.T} {v : Value} (h : qDd F w t l v) : qDd F' w' t l v := by
 obtain ⟨a, c, e, h0, h1⟩ := h
 refine ⟨a, c, e, h0, fun i hi => ?_⟩
 obtain ⟨b, off, cs, e2, h2, h3, h4⟩ := h1 i hi
 exact ⟨b, off, cs, e2, hF _ h2, ha.cellsAt h2 h3, zK hF ha h4⟩
def DC (F : Nat -> Prop) (w : World) : CV -> Value -> Prop
 | .int k n, v => v = .int k n
 | .bool b, v => v = .bool b
 | .str s, v => v = .string ⟨⟨s⟩⟩
 | .dat _ t l, v => qDd F w t l v
 | .pdat _ t x off, v => ∃ b o cs, v = .pointer (some ⟨b, o + off, none⟩) /\ F b /\ qV w b o cs /\ Rd F w t x cs
 | .emp _ _, v => ∃ a, v = .slice a 0 0
 | _, _ => True
theorem qGQ {F F' : Nat -> Prop} {w w' : World} (hF : ∀ b, F b -> F' b) (ha : qC F w w') {c : CV} {v : Value} (h : DC F w c v) : DC F' w' c v := by
 cases c <;> simp only [DC] at h ⊢ <;> first | exact h | skip
 ·exact vX hF ha h
 ·obtain ⟨b, o, cs, e, h1, h2, h3⟩ := h
  exact ⟨b, o, cs, e, hF _ h1, ha.cellsAt h1 h2, zK hF ha h3⟩
theorem qCp {F : Nat -> Prop} {w : World} : ∀ {t : Ty} {x : t.T} {vs : List Value}, Rd F w t x vs -> jC (DC F w) (t.cells x) vs
 | .int _, _, _, h => by rw [Rd] at h; subst h; exact ⟨rfl, trivial⟩
 | .bool, _, _, h => by rw [Rd] at h; subst h; exact ⟨rfl, trivial⟩
 | .str, _, _, h => by rw [Rd] at h; subst h; exact ⟨rfl, trivial⟩
 | .unit, _, _, h => by rw [Rd] at h; subst h; exact trivial
 | .prod a b, _, _, h => by
  rw [Rd] at h
  obtain ⟨v1, v2, rfl, h1, h2⟩ := h
  exact (qCp h1).append (qCp h2)
 | .ptr _ _, _, _, h => by
  rw [Rd] at h
  obtain ⟨b, off, cs, rfl, h1, h2, h3⟩ := h
  exact ⟨⟨b, off, cs, rfl, h1, h2, h3⟩, trivial⟩
 | .sl _ _, _, _, h => by
  rw [kB] at h
  obtain ⟨v, rfl, h⟩ := h
  exact ⟨h, trivial⟩
theorem qP2 {e : TypeId} {t u : Ty} (h : t = u) (l : List t.T) (p : Ty.sl e t = Ty.sl e u) : HEq (xG (t := .sl e t) (u := .sl e u) p l) l := by
 subst h; rfl
theorem qKw {F : Nat -> Prop} {w : World} {e : TypeId} {t u : Ty} (h : t = u) (p : Ty.sl e t = Ty.sl e u) {l : List t.T} {v : Value} (hr : qDd F w t l v) :
  qDd F w u (xG (t := .sl e t) (u := .sl e u) p l) v := by
 subst h; exact hr
theorem qMD {F : Nat -> Prop} {w : World} : ∀ {t : Ty} {cs : List CV} {x : t.T} {r : List CV} {vs : List Value}, t.pack cs = some (x, r) -> jC (DC F w) cs vs ->
  ∃ v1 v2, vs = v1 ++ v2 /\ Rd F w t x v1 /\ jC (DC F w) r v2 := by
 intro t
 induction t with
 | int k =>
  intro cs x r vs h ha
  cases cs with
  | nil => simp [Ty.pack] at h
  | cons c cs =>
   cases vs with
   | nil => exact ha.elim
   | cons v vs =>
    cases c <;> simp [Ty.pack] at h
    obtain ⟨rfl, rfl, rfl⟩ := h
    exact ⟨[v], vs, rfl, by rw [Rd, ha.1], ha.2⟩
 | bool =>
  intro cs x r vs h ha
  cases cs with
  | nil => simp [Ty.pack] at h
  | cons c cs =>
   cases vs with
   | nil => exact ha.elim
   | cons v vs =>
    cases c <;> simp [Ty.pack] at h
    obtain ⟨rfl, rfl⟩ := h
    exact ⟨[v], vs, rfl, by rw [Rd, ha.1], ha.2⟩
 | str =>
  intro cs x r vs h ha
  cases cs with
  | nil => simp [Ty.pack] at h
  | cons c cs =>
   cases vs with
   | nil => exact ha.elim
   | cons v vs =>
    cases c <;> simp [Ty.pack] at h
    obtain ⟨rfl, rfl⟩ := h
    exact ⟨[v], vs, rfl, by rw [Rd, ha.1], ha.2⟩
 | unit =>
  intro cs x r vs h ha
  simp [Ty.pack] at h
  subst h
  exact ⟨[], vs, rfl, by rw [Rd], ha⟩
 | prod a b iha ihb =>
  intro cs x r vs h ha
  simp only [Ty.pack] at h
  split at h
  ·rename_i y r1 h1
   split at h
   ·rename_i z r2 h2
    simp only [Option.some.injEq, Prod.mk.injEq] at h
    obtain ⟨rfl, rfl⟩ := h
    obtain ⟨v1, v2, rfl, g1, g2⟩ := iha h1 ha
    obtain ⟨v3, v4, rfl, g3, g4⟩ := ihb h2 g2
    exact ⟨v1 ++ v3, v4, by simp, by rw [Rd]; exact ⟨v1, v3, rfl, g1, g3⟩, g4⟩
   ·cases h
  ·cases h
 | ptr e t iht =>
  intro cs x r vs h ha
  cases cs with
  | nil => simp [Ty.pack] at h
  | cons c cs =>
   cases vs with
   | nil => exact ha.elim
   | cons v vs =>
    cases c with
    | pdat e' t' y off =>
     cases off with
     | zero =>
      simp only [Ty.pack] at h
      split at h
      ·split at h
       ·rename_i hT
        subst hT
        simp only [Option.some.injEq, Prod.mk.injEq] at h
        obtain ⟨rfl, rfl⟩ := h
        obtain ⟨b, o, cs', e1, h1, h2, h3⟩ := ha.1
        exact ⟨[v], vs, rfl, by rw [Rd]; exact ⟨b, o, cs', by rw [e1]; rfl, h1, h2, h3⟩, ha.2⟩
       ·cases h
      ·cases h
     | succ n => simp [Ty.pack] at h
    | _ => simp [Ty.pack] at h
 | sl e t iht =>
  intro cs x r vs h ha
  cases cs with
  | nil => simp [Ty.pack] at h
  | cons c cs =>
   cases vs with
   | nil => exact ha.elim
   | cons v vs =>
    cases c with
    | dat e' t' l =>
     simp only [Ty.pack] at h
     split at h
     ·split at h
      ·rename_i hT
       simp only [Option.some.injEq, Prod.mk.injEq] at h
       obtain ⟨rfl, rfl⟩ := h
       exact ⟨[v], vs, rfl, kB.2 ⟨v, rfl, qKw hT _ ha.1⟩, ha.2⟩
      ·cases h
     ·cases h
    | emp e' t' =>
     simp only [Ty.pack] at h
     split at h
     ·simp only [Option.some.injEq, Prod.mk.injEq] at h
      obtain ⟨rfl, rfl⟩ := h
      obtain ⟨a, ea⟩ := ha.1
      exact ⟨[v], vs, rfl, kB.2 ⟨v, rfl, a, 0, by rw [ea]; rfl, Nat.le_refl _, fun i hi => by simp at hi⟩, ha.2⟩
     ·cases h
    | _ => simp [Ty.pack] at h
theorem qCg {F : Nat -> Prop} {w : World} {t : Ty} {cs : List CV} {x : t.T} {vs : List Value} (h : t.pack1 cs = some x) (ha : jC (DC F w) cs vs) : Rd F w t x vs := by
 unfold Ty.pack1 at h
 split at h
 ·rename_i y hp
  simp only [Option.some.injEq] at h
  subst h
  obtain ⟨v1, v2, rfl, g1, g2⟩ := qMD hp ha
  cases v2 with
  | nil => simpa using g1
  | cons _ _ => exact g2.elim
 ·cases h
theorem qI6 {F : Nat -> Prop} {w : World} : ∀ {t : Ty} {x : t.T} {off : Nat} {e : TypeId} {u : Ty} {l : List u.T} {vs : List Value}, t.slAt x off = some ⟨e, u, l⟩ -> Rd F w t x vs ->
  ∃ v, vs[off]? = some v /\ qDd F w u l v := by
 intro t
 induction t with
 | prod a b iha ihb =>
  intro x off e u l vs h hr
  rw [Rd] at hr
  obtain ⟨v1, v2, rfl, h1, h2⟩ := hr
  have hl := qB7 h1
  simp only [Ty.slAt] at h
  split at h
  ·obtain ⟨v, hv, g⟩ := iha h h1
   exact ⟨v, by rw [List.getElem?_append_left (by omega)]; exact hv, g⟩
  ·obtain ⟨v, hv, g⟩ := ihb h h2
   exact ⟨v, by rw [List.getElem?_append_right (by omega), hl]; exact hv, g⟩
 | sl e t iht =>
  intro x off e' u l vs h hr
  simp only [Ty.slAt] at h
  split at h
  ·rename_i h0
   simp only [Option.some.injEq, Sigma.mk.injEq] at h
   obtain ⟨rfl, h⟩ := h
   obtain ⟨rfl, h⟩ := (Sigma.mk.injEq ..).mp (eq_of_heq h)
   obtain rfl := eq_of_heq h
   obtain ⟨v, rfl, g⟩ := kB.1 hr
   exact ⟨v, by subst h0; rfl, g⟩
  ·cases h
 | _ => intro x off e u l vs h; simp [Ty.slAt] at h
def qBq (n : Nat) (fr : Nat × Nat) : Prop := fr.1 <= fr.2 /\ ∀ o, o < n -> ¬ (fr.1 <= o /\ o < fr.2)
def qHZ (w : World) (e : TypeId) (sz : Nat) {α : Type} (R : α -> (Nat -> Prop) -> List Value -> Prop) (B : Nat -> Prop) (l : List α) (v : Value) : Prop :=
 ∃ a c, v = .slice a l.length c /\ ((l = [] /\ c = 0) \/
  ∃ b arr fr, a = some ⟨b, 0, none⟩ /\ w.heap[b]? = some (.cells arr e fr) /\ qBq arr.size fr /\ c * sz <= arr.size /\ l.length <= c /\ B b /\
   ∃ Bs : Nat -> Nat -> Prop, (∀ i x, i < l.length -> Bs i x -> B x /\ x ≠ b) /\ (∀ i j x, i < l.length -> j < l.length -> Bs i x -> Bs j x -> i = j) /\
    ∀ i (h : i < l.length), ∃ vs, qV w b (i * sz) vs /\ R l[i] (Bs i) vs)
def qJ (F : Nat -> Prop) (w : World) : (t : Ty) -> (n : Nat) -> t.T -> (Nat -> Prop) -> List Value -> Prop
 | .int k, _, n, _, vs => vs = [.int k n]
 | .bool, _, b, _, vs => vs = [.bool b]
 | .str, _, s, _, vs => vs = [.string ⟨⟨s⟩⟩]
 | .unit, _, _, _, vs => vs = []
 | .prod a b, n, p, B, vs => ∃ v1 v2 B1 B2, vs = v1 ++ v2 /\ (∀ x, B1 x -> B x /\ ¬ B2 x) /\ (∀ x, B2 x -> B x) /\ qJ F w a n p.1 B1 v1 /\ qJ F w b n p.2 B2 v2
 | .ptr e t, _, x, _, vs => Rd F w (.ptr e t) x vs
 | .sl e t, 0, l, _, vs => Rd F w (.sl e t) l vs
 | .sl e t, n + 1, l, B, vs => ∃ v, vs = [v] /\ qHZ w e t.sz (fun x B vs => qJ F w t n x B vs) B l v
theorem qDe {w : World} {e : TypeId} {sz : Nat} {α : Type} {R S : α -> (Nat -> Prop) -> List Value -> Prop} {B B' : Nat -> Prop} {l : List α} {v : Value}
  (hR : ∀ x B vs, R x B vs -> S x B vs) (hB : ∀ b, B b -> B' b) (h : qHZ w e sz R B l v) : qHZ w e sz S B' l v := by
 obtain ⟨a, c, hv, h | ⟨b, arr, fr, h1, h2, h3, h4, h5, h6, Bs, h7, h8, h9⟩⟩ := h
 ·exact ⟨a, c, hv, .inl h⟩
 ·refine ⟨a, c, hv, .inr ⟨b, arr, fr, h1, h2, h3, h4, h5, hB _ h6, Bs, fun i x hi hx => ⟨hB _ (h7 i x hi hx).1, (h7 i x hi hx).2⟩, h8, fun i hi => ?_⟩⟩
  obtain ⟨vs, g1, g2⟩ := h9 i hi
  exact ⟨vs, g1, hR _ _ _ g2⟩
theorem jB {F : Nat -> Prop} {w : World} : ∀ {t : Ty} {n : Nat} {x : t.T} {B : Nat -> Prop} {vs : List Value}, qJ F w t n x B vs -> vs.length = t.sz
 | .int _, _, _, _, _, h => by rw [qJ] at h; subst h; rfl
 | .bool, _, _, _, _, h => by rw [qJ] at h; subst h; rfl
 | .str, _, _, _, _, h => by rw [qJ] at h; subst h; rfl
 | .unit, _, _, _, _, h => by rw [qJ] at h; subst h; rfl
 | .prod a b, _, _, _, _, h => by
  rw [qJ] at h
  obtain ⟨v1, v2, B1, B2, rfl, _, _, h1, h2⟩ := h
  simp [Ty.sz, jB h1, jB h2]
 | .ptr _ _, _, _, _, _, h => by rw [qJ] at h; exact qB7 h
 | .sl _ _, 0, _, _, _, h => by rw [qJ] at h; exact qB7 h
 | .sl _ _, _ + 1, _, _, _, h => by rw [qJ] at h; obtain ⟨_, rfl, _⟩ := h; rfl
theorem zP {F : Nat -> Prop} {w : World} : ∀ {t : Ty} {n : Nat} {x : t.T} {B B' : Nat -> Prop} {vs : List Value}, (∀ b, B b -> B' b) -> qJ F w t n x B vs -> qJ F w t n x B' vs
 | .int _, _, _, _, _, _, _, h => by rw [qJ] at h ⊢; exact h
 | .bool, _, _, _, _, _, _, h => by rw [qJ] at h ⊢; exact h
 | .str, _, _, _, _, _, _, h => by rw [qJ] at h ⊢; exact h
 | .unit, _, _, _, _, _, _, h => by rw [qJ] at h ⊢; exact h
 | .prod a b, _, _, _, _, _, hB, h => by
  rw [qJ] at h ⊢
  obtain ⟨v1, v2, B1, B2, e, d1, d2, h1, h2⟩ := h
  exact ⟨v1, v2, B1, B2, e, fun x hx => ⟨hB _ (d1 x hx).1, (d1 x hx).2⟩, fun x hx => hB _ (d2 x hx), h1, h2⟩
 | .ptr _ _, _, _, _, _, _, _, h => by rw [qJ] at h ⊢; exact h
 | .sl _ _, 0, _, _, _, _, _, h => by rw [qJ] at h ⊢; exact h
 | .sl _ _, _ + 1, _, _, _, _, hB, h => by
  rw [qJ] at h ⊢
  obtain ⟨v, e, h⟩ := h
  exact ⟨v, e, qDe (fun _ _ _ h => h) hB h⟩
theorem jA {F F' : Nat -> Prop} {w w' : World} (hF : ∀ b, F b -> F' b) (ha : qC F w w') : ∀ {t : Ty} {n : Nat} {x : t.T} {B : Nat -> Prop} {vs : List Value},
  qC B w w' -> qJ F w t n x B vs -> qJ F' w' t n x B vs := by
 intro t
 induction t with
 | int k => intro n x B vs _ h; rw [qJ] at h ⊢; exact h
 | bool => intro n x B vs _ h; rw [qJ] at h ⊢; exact h
 | str => intro n x B vs _ h; rw [qJ] at h ⊢; exact h
 | unit => intro n x B vs _ h; rw [qJ] at h ⊢; exact h
 | ptr e t _ => intro n x B vs _ h; rw [qJ] at h ⊢; exact zK hF ha h
 | prod a b iha ihb =>
  intro n x B vs hB h
  rw [qJ] at h ⊢
  obtain ⟨v1, v2, B1, B2, e, d1, d2, h1, h2⟩ := h
  exact ⟨v1, v2, B1, B2, e, d1, d2, iha (hB.mono fun x hx => (d1 x hx).1) h1, ihb (hB.mono d2) h2⟩
 | sl e t iht =>
  intro n x B vs hB h
  cases n with
  | zero => rw [qJ] at h ⊢; exact zK hF ha h
  | succ n =>
   rw [qJ] at h ⊢
   obtain ⟨v, e1, a, c, hv, h | ⟨b, arr, fr, h1, h2, h3, h4, h5, h6, Bs, h7, h8, h9⟩⟩ := h
   ·exact ⟨v, e1, a, c, hv, .inl h⟩
   ·refine ⟨v, e1, a, c, hv, .inr ⟨b, arr, fr, h1, hB _ _ h6 h2, h3, h4, h5, h6, Bs, h7, h8, fun i hi => ?_⟩⟩
    obtain ⟨vs, g1, g2⟩ := h9 i hi
    exact ⟨vs, hB.cellsAt h6 g1, iht (hB.mono fun y hy => (h7 i y hi hy).1) g2⟩
theorem qBk {F : Nat -> Prop} {w : World} : ∀ {t : Ty} {n k : Nat} {x : t.T} {B : Nat -> Prop} {vs : List Value}, k <= n -> qJ F w t n x B vs ->
  ∃ B', (∀ b, B' b -> B b) /\ qJ (fun b => F b \/ (B b /\ ¬ B' b)) w t k x B' vs := by
 intro t
 induction t with
 | int k => intro n k x B vs _ h; rw [qJ] at h; exact ⟨fun _ => False, fun _ h => h.elim, by rw [qJ]; exact h⟩
 | bool => intro n k x B vs _ h; rw [qJ] at h; exact ⟨fun _ => False, fun _ h => h.elim, by rw [qJ]; exact h⟩
 | str => intro n k x B vs _ h; rw [qJ] at h; exact ⟨fun _ => False, fun _ h => h.elim, by rw [qJ]; exact h⟩
 | unit => intro n k x B vs _ h; rw [qJ] at h; exact ⟨fun _ => False, fun _ h => h.elim, by rw [qJ]; exact h⟩
 | ptr e t _ => intro n k x B vs _ h; rw [qJ] at h; exact ⟨fun _ => False, fun _ h => h.elim, by rw [qJ]; exact zK (fun b hb => .inl hb) (qC.refl _ _) h⟩
 | prod a b iha ihb =>
  intro n k x B vs hk h
  rw [qJ] at h
  obtain ⟨v1, v2, B1, B2, e, d1, d2, h1, h2⟩ := h
  obtain ⟨C1, s1, g1⟩ := iha hk h1
  obtain ⟨C2, s2, g2⟩ := ihb hk h2
  refine ⟨fun x => C1 x \/ C2 x, fun x hx => hx.elim (fun h => (d1 _ (s1 _ h)).1) (fun h => d2 _ (s2 _ h)), ?_⟩
  rw [qJ]
  refine ⟨v1, v2, C1, C2, e, fun y hy => ⟨.inl hy, fun h' => (d1 _ (s1 _ hy)).2 (s2 _ h')⟩, fun y hy => .inr hy, ?_, ?_⟩
  ·refine jA (fun y hy => ?_) (qC.refl _ _) (qC.refl _ _) g1
   rcases hy with hy | ⟨hy, hn⟩
   ·exact .inl hy
   ·exact .inr ⟨(d1 _ hy).1, fun h' => h'.elim hn fun h' => (d1 _ hy).2 (s2 _ h')⟩
  ·refine jA (fun y hy => ?_) (qC.refl _ _) (qC.refl _ _) g2
   rcases hy with hy | ⟨hy, hn⟩
   ·exact .inl hy
   ·exact .inr ⟨d2 _ hy, fun h' => h'.elim (fun h' => (d1 _ (s1 _ h')).2 hy) hn⟩
 | sl e t iht =>
  intro n k x B vs hk h
  cases n with
  | zero =>
   obtain rfl : k = 0 := by omega
   rw [qJ] at h
   exact ⟨fun _ => False, fun _ h => h.elim, by rw [qJ]; exact zK (fun b hb => .inl hb) (qC.refl _ _) h⟩
  | succ n =>
   rw [qJ] at h
   obtain ⟨v, e1, a, c, hv, h | ⟨b, arr, fr, h1, h2, h3, h4, h5, h6, Bs, h7, h8, h9⟩⟩ := h
   ·obtain ⟨rfl, rfl⟩ := h
    refine ⟨fun _ => False, fun _ h => h.elim, ?_⟩
    cases k with
    | zero => rw [qJ, kB]; exact ⟨v, e1, a, 0, hv, Nat.le_refl _, fun i hi => by simp at hi⟩
    | succ k => rw [qJ]; exact ⟨v, e1, a, 0, hv, .inl ⟨rfl, rfl⟩⟩
   ·cases k with
    | zero =>
     refine ⟨fun _ => False, fun _ h => h.elim, ?_⟩
     rw [qJ, kB]
     refine ⟨v, e1, a, c, hv, h5, fun i hi => ?_⟩
     obtain ⟨vs, g1, g2⟩ := h9 i hi
     obtain ⟨B', s', g'⟩ := iht (k := 0) (Nat.zero_le _) g2
     refine ⟨b, 0, vs, h1, .inr ⟨h6, fun h => h⟩, by simpa using g1, ?_⟩
     have rd : ∀ {t : Ty} {x : t.T} {G B : Nat -> Prop} {vs : List Value}, qJ G w t 0 x B vs -> Rd G w t x vs := by
      intro t
      induction t with
      | int k => intro x G B vs h; rw [qJ] at h; rw [Rd]; exact h
      | bool => intro x G B vs h; rw [qJ] at h; rw [Rd]; exact h
      | str => intro x G B vs h; rw [qJ] at h; rw [Rd]; exact h
      | unit => intro x G B vs h; rw [qJ] at h; rw [Rd]; exact h
      | ptr e t _ => intro x G B vs h; rw [qJ] at h; exact h
      | sl e t _ => intro x G B vs h; rw [qJ] at h; exact h
      | prod a b iha ihb =>
       intro x G B vs h
       rw [qJ] at h
       obtain ⟨v1, v2, B1, B2, e, d1, d2, h1, h2⟩ := h
       rw [Rd]; exact ⟨v1, v2, e, iha h1, ihb h2⟩
     refine zK (fun y hy => ?_) (qC.refl _ _) (rd g')
     rcases hy with hy | ⟨hy, _⟩
     ·exact .inl hy
     ·exact .inr ⟨(h7 i y hi hy).1, fun h => h⟩
    | succ k =>
     have hex : ∀ i, ∃ B' : Nat -> Prop, ∀ hi : i < x.length, (∀ y, B' y -> Bs i y) /\ ∃ vs, qV w b (i * t.sz) vs /\ qJ (fun y => F y \/ (Bs i y /\ ¬ B' y)) w t k x[i] B' vs := by
      intro i
      by_cases hi : i < x.length
      ·obtain ⟨vs, g1, g2⟩ := h9 i hi
       obtain ⟨B', s', g'⟩ := iht (k := k) (by omega) g2
       exact ⟨B', fun _ => ⟨s', vs, g1, g'⟩⟩
      ·exact ⟨fun _ => False, fun h => absurd h hi⟩
     refine ⟨fun y => y = b \/ ∃ i, i < x.length /\ (Classical.choose (hex i)) y, fun y hy => ?_, ?_⟩
     ·rcases hy with rfl | ⟨i, hi, hy⟩
      ·exact h6
      ·exact (h7 i y hi ((Classical.choose_spec (hex i) hi).1 y hy)).1
     ·rw [qJ]
      refine ⟨v, e1, a, c, hv, .inr ⟨b, arr, fr, h1, h2, h3, h4, h5, .inl rfl, fun i => Classical.choose (hex i), fun i y hi hy => ?_, fun i j y hi hj hy hy' => ?_, fun i hi => ?_⟩⟩
      ·exact ⟨.inr ⟨i, hi, hy⟩, (h7 i y hi ((Classical.choose_spec (hex i) hi).1 y hy)).2⟩
      ·exact h8 i j y hi hj ((Classical.choose_spec (hex i) hi).1 y hy) ((Classical.choose_spec (hex j) hj).1 y hy')
      ·obtain ⟨s', vs, g1, g2⟩ := Classical.choose_spec (hex i) hi
       refine ⟨vs, g1, jA (fun y hy => ?_) (qC.refl _ _) (qC.refl _ _) g2⟩
       rcases hy with hy | ⟨hy, hn⟩
       ·exact .inl hy
       ·refine .inr ⟨(h7 i y hi hy).1, ?_⟩
        rintro (rfl | ⟨j, hj, hy'⟩)
        ·exact (h7 i _ hi hy).2 rfl
        ·have := h8 i j y hi hj hy ((Classical.choose_spec (hex j) hj).1 y hy')
         subst this
         exact hn hy'
theorem qDf {F : Nat -> Prop} {w : World} : ∀ {t : Ty} {x : t.T} {B : Nat -> Prop} {vs : List Value}, qJ F w t 0 x B vs -> Rd F w t x vs := by
 intro t
 induction t with
 | int k => intro x B vs h; rw [qJ] at h; rw [Rd]; exact h
 | bool => intro x B vs h; rw [qJ] at h; rw [Rd]; exact h
 | str => intro x B vs h; rw [qJ] at h; rw [Rd]; exact h
 | unit => intro x B vs h; rw [qJ] at h; rw [Rd]; exact h
 | ptr e t _ => intro x B vs h; rw [qJ] at h; exact h
 | sl e t _ => intro x B vs h; rw [qJ] at h; exact h
 | prod a b iha ihb =>
  intro x B vs h
  rw [qJ] at h
  obtain ⟨v1, v2, B1, B2, e, d1, d2, h1, h2⟩ := h
  rw [Rd]; exact ⟨v1, v2, e, iha h1, ihb h2⟩
theorem qBM {F : Nat -> Prop} {w : World} : ∀ {t : Ty} {x : t.T} {B : Nat -> Prop} {vs : List Value}, Rd F w t x vs -> qJ F w t 0 x B vs := by
 intro t
 induction t with
 | int k => intro x B vs h; rw [Rd] at h; rw [qJ]; exact h
 | bool => intro x B vs h; rw [Rd] at h; rw [qJ]; exact h
 | str => intro x B vs h; rw [Rd] at h; rw [qJ]; exact h
 | unit => intro x B vs h; rw [Rd] at h; rw [qJ]; exact h
 | ptr e t _ => intro x B vs h; rw [qJ]; exact h
 | sl e t _ => intro x B vs h; rw [qJ]; exact h
 | prod a b iha ihb =>
  intro x B vs h
  rw [Rd] at h
  obtain ⟨v1, v2, e, h1, h2⟩ := h
  rw [qJ]; exact ⟨v1, v2, fun _ => False, fun _ => False, e, fun _ h => h.elim, fun _ h => h.elim, iha h1, ihb h2⟩
theorem qAb {F : Nat -> Prop} {w : World} {t : Ty} {n : Nat} {x : t.T} {B : Nat -> Prop} {vs : List Value} (h : qJ F w t n x B vs) : Rd (fun b => F b \/ B b) w t x vs := by
 obtain ⟨B', s, g⟩ := qBk (Nat.zero_le n) h
 refine zK (fun y hy => ?_) (qC.refl _ _) (qDf g)
 exact hy.imp id fun hy => hy.1
theorem qDg {F G : Nat -> Prop} {w w' : World} : ∀ {t : Ty} {n k : Nat} {x : t.T} {B C : Nat -> Prop} {vs : List Value}, t.refs = false -> qJ F w t n x B vs -> qJ G w' t k x C vs := by
 intro t
 induction t with
 | int k => intro n k x B C vs _ h; rw [qJ] at h ⊢; exact h
 | bool => intro n k x B C vs _ h; rw [qJ] at h ⊢; exact h
 | str => intro n k x B C vs _ h; rw [qJ] at h ⊢; exact h
 | unit => intro n k x B C vs _ h; rw [qJ] at h ⊢; exact h
 | ptr e t _ => intro n k x B C vs hr; simp [Ty.refs] at hr
 | sl e t _ => intro n k x B C vs hr; simp [Ty.refs] at hr
 | prod a b iha ihb =>
  intro n k x B C vs hr h
  simp only [Ty.refs, Bool.or_eq_false_iff] at hr
  rw [qJ] at h ⊢
  obtain ⟨v1, v2, B1, B2, e, d1, d2, h1, h2⟩ := h
  exact ⟨v1, v2, fun _ => False, fun _ => False, e, fun _ h => h.elim, fun _ h => h.elim, iha hr.1 h1, ihb hr.2 h2⟩
theorem qGO {F G : Nat -> Prop} {w w' : World} {t : Ty} {x : t.T} {vs : List Value} (hr : t.refs = false) (h : Rd F w t x vs) : Rd G w' t x vs :=
 qDf (qDg (B := fun _ => False) (C := fun _ => False) hr (qBM h))
def qCe (F : Nat -> Prop) (w : World) : (t : Ty) -> (n off : Nat) -> t.T -> (Nat -> Prop) -> List Value -> Prop
 | .prod a b, n, off, p, B, vs => ∃ v1 v2 B1 B2, vs = v1 ++ v2 /\ (∀ x, B1 x -> B x /\ ¬ B2 x) /\ (∀ x, B2 x -> B x) /\
   if off < a.sz then qCe F w a n off p.1 B1 v1 /\ qJ F w b n p.2 B2 v2 else qJ F w a n p.1 B1 v1 /\ qCe F w b n (off - a.sz) p.2 B2 v2
 | .sl _ _, _, off, _, _, vs => off = 0 /\ ∃ v, vs = [v]
 | .int _, _, _, _, _, _ => False
 | .bool, _, _, _, _, _ => False
 | .str, _, _, _, _, _ => False
 | .unit, _, _, _, _, _ => False
 | .ptr _ _, _, _, _, _, _ => False
theorem qH0 {F : Nat -> Prop} {w : World} : ∀ {t : Ty} {n off : Nat} {x : t.T} {B : Nat -> Prop} {vs : List Value}, qCe F w t n off x B vs -> vs.length = t.sz /\ off < t.sz := by
 intro t
 induction t with
 | prod a b iha ihb =>
  intro n off x B vs h
  rw [qCe] at h
  obtain ⟨v1, v2, B1, B2, rfl, _, _, h⟩ := h
  rw [List.length_append, Ty.sz]
  split at h
  ·obtain ⟨h1, h2⟩ := h
   have := iha h1
   rw [jB h2]; omega
  ·obtain ⟨h1, h2⟩ := h
   have := ihb h2
   rw [jB h1]; omega
 | sl e t _ =>
  intro n off x B vs h
  rw [qCe] at h
  obtain ⟨rfl, v, rfl⟩ := h
  exact ⟨rfl, by simp [Ty.sz]⟩
 | _ => intro n off x B vs h; rw [qCe] at h; exact h.elim
theorem qKy {F : Nat -> Prop} {w : World} {t : Ty} {n off : Nat} {x : t.T} {B B' : Nat -> Prop} {vs : List Value} (hB : ∀ b, B b -> B' b) (h : qCe F w t n off x B vs) : qCe F w t n off x B' vs := by
 cases t with
 | prod a b =>
  rw [qCe] at h ⊢
  obtain ⟨v1, v2, B1, B2, e, d1, d2, h⟩ := h
  exact ⟨v1, v2, B1, B2, e, fun x hx => ⟨hB _ (d1 x hx).1, (d1 x hx).2⟩, fun x hx => hB _ (d2 x hx), h⟩
 | sl e t => rw [qCe] at h ⊢; exact h
 | _ => rw [qCe] at h; exact h.elim
theorem qFZ {F F' : Nat -> Prop} {w w' : World} (hF : ∀ b, F b -> F' b) (ha : qC F w w') : ∀ {t : Ty} {n off : Nat} {x : t.T} {B : Nat -> Prop} {vs : List Value},
  qC B w w' -> qCe F w t n off x B vs -> qCe F' w' t n off x B vs := by
 intro t
 induction t with
 | prod a b iha ihb =>
  intro n off x B vs hB h
  rw [qCe] at h ⊢
  obtain ⟨v1, v2, B1, B2, e, d1, d2, h⟩ := h
  refine ⟨v1, v2, B1, B2, e, d1, d2, ?_⟩
  have a1 : qC B1 w w' := hB.mono fun x hx => (d1 x hx).1
  have a2 : qC B2 w w' := hB.mono d2
  split at h
  ·rename_i ho; rw [if_pos ho]; exact ⟨iha a1 h.1, jA hF ha a2 h.2⟩
  ·rename_i ho; rw [if_neg ho]; exact ⟨jA hF ha a1 h.1, ihb a2 h.2⟩
 | sl e t _ => intro n off x B vs _ h; rw [qCe] at h ⊢; exact h
 | _ => intro n off x B vs _ h; rw [qCe] at h; exact h.elim
theorem qKx {F : Nat -> Prop} {w : World} : ∀ {t : Ty} {n off : Nat} {x : t.T} {e : TypeId} {u : Ty} {l : List u.T} {B : Nat -> Prop} {vs : List Value}, t.slAt x off = some ⟨e, u, l⟩ -> qJ F w t n x B vs ->
  ∃ Bx v, (∀ y, Bx y -> B y) /\ vs[off]? = some v /\ qJ F w (.sl e u) n l Bx [v] /\ qCe F w t n off x (fun y => B y /\ ¬ Bx y) vs := by
 intro t
 induction t with
 | prod a b iha ihb =>
  intro n off x e u l B vs hat h
  rw [qJ] at h
  obtain ⟨v1, v2, B1, B2, rfl, d1, d2, h1, h2⟩ := h
  have hl := jB h1
  simp only [Ty.slAt] at hat
  by_cases ho : off < a.sz
  ·rw [if_pos ho] at hat
   obtain ⟨Bx, v, k1, k2, k3, k4⟩ := iha hat h1
   refine ⟨Bx, v, fun y hy => (d1 y (k1 y hy)).1, by rw [List.getElem?_append_left (by omega)]; exact k2, k3, ?_⟩
   rw [qCe]
   refine ⟨v1, v2, fun y => B1 y /\ ¬ Bx y, B2, rfl, fun y hy => ⟨⟨(d1 y hy.1).1, hy.2⟩, (d1 y hy.1).2⟩, fun y hy => ⟨d2 y hy, fun hx => (d1 y (k1 y hx)).2 hy⟩, ?_⟩
   rw [if_pos ho]; exact ⟨k4, h2⟩
  ·rw [if_neg ho] at hat
   obtain ⟨Bx, v, k1, k2, k3, k4⟩ := ihb hat h2
   refine ⟨Bx, v, fun y hy => d2 y (k1 y hy), by rw [List.getElem?_append_right (by omega), hl]; exact k2, k3, ?_⟩
   rw [qCe]
   refine ⟨v1, v2, B1, fun y => B2 y /\ ¬ Bx y, rfl, fun y hy => ⟨⟨(d1 y hy).1, fun hx => (d1 y hy).2 (k1 y hx)⟩, fun hx => (d1 y hy).2 hx.1⟩, fun y hy => ⟨d2 y hy.1, hy.2⟩, ?_⟩
   rw [if_neg ho]; exact ⟨h1, k4⟩
 | sl e0 t0 _ =>
  intro n off x e u l B vs hat h
  simp only [Ty.slAt] at hat
  split at hat
  ·rename_i h0
   simp only [Option.some.injEq, Sigma.mk.injEq] at hat
   obtain ⟨rfl, hat⟩ := hat
   obtain ⟨rfl, hat⟩ := (Sigma.mk.injEq ..).mp (eq_of_heq hat)
   obtain rfl := eq_of_heq hat
   have hlen := jB h
   match vs, hlen with
   | [v], _ => exact ⟨B, v, fun _ h => h, by rw [h0]; rfl, h, by rw [qCe]; exact ⟨h0, v, rfl⟩⟩
  ·cases hat
 | _ => intro n off x e u l B vs hat; simp [Ty.slAt] at hat
theorem qKz {F : Nat -> Prop} {w : World} : ∀ {t : Ty} {n off : Nat} {x x' : t.T} {e : TypeId} {u : Ty} {l : List u.T} {B Bx : Nat -> Prop} {vs : List Value} {v : Value}, qCe F w t n off x B vs -> t.slSet x off e u l = some x' ->
  qJ F w (.sl e u) n l Bx [v] -> (∀ y, Bx y -> ¬ B y) -> qJ F w t n x' (fun y => B y \/ Bx y) (vs.set off v) := by
 intro t
 induction t with
 | prod a b iha ihb =>
  intro n off x x' e u l B Bx vs v h hset hn hd
  rw [qCe] at h
  obtain ⟨v1, v2, B1, B2, rfl, d1, d2, h⟩ := h
  simp only [Ty.slSet] at hset
  by_cases ho : off < a.sz
  ·rw [if_pos ho] at hset h
   obtain ⟨h1, h2⟩ := h
   have hl := (qH0 h1).1
   cases hr : a.slSet x.1 off e u l with
   | none => simp [hr] at hset
   | some x1 =>
    simp only [hr, Option.map_some, Option.some.injEq] at hset
    subst hset
    have g := iha h1 hr hn fun y hy hb => hd y hy (d1 y hb).1
    rw [qJ]
    refine ⟨v1.set off v, v2, fun y => B1 y \/ Bx y, B2, by rw [List.set_append_left _ _ (by omega)], fun y hy => ?_, fun y hy => .inl (d2 y hy), g, h2⟩
    rcases hy with hy | hy
    ·exact ⟨.inl (d1 y hy).1, (d1 y hy).2⟩
    ·exact ⟨.inr hy, fun hb => hd y hy (d2 y hb)⟩
  ·rw [if_neg ho] at hset h
   obtain ⟨h1, h2⟩ := h
   have hl := jB h1
   cases hr : b.slSet x.2 (off - a.sz) e u l with
   | none => simp [hr] at hset
   | some x2 =>
    simp only [hr, Option.map_some, Option.some.injEq] at hset
    subst hset
    have g := ihb h2 hr hn fun y hy hb => hd y hy (d2 y hb)
    rw [qJ]
    refine ⟨v1, v2.set (off - a.sz) v, B1, fun y => B2 y \/ Bx y, by rw [List.set_append_right _ _ (by omega), hl], fun y hy => ⟨.inl (d1 y hy).1, fun hb => hb.elim (d1 y hy).2 fun hb => hd y hb (d1 y hy).1⟩, fun y hy => ?_, h1, g⟩
    rcases hy with hy | hy
    ·exact .inl (d2 y hy)
    ·exact .inr hy
 | sl e0 t0 _ =>
  intro n off x x' e u l B Bx vs v h hset hn hd
  rw [qCe] at h
  obtain ⟨rfl, v0, rfl⟩ := h
  simp only [Ty.slSet, true_and] at hset
  split at hset
  ·rename_i he
   subst he
   split at hset
   ·rename_i hu
    subst hu
    simp only [Option.some.injEq] at hset
    rw [<- hset]
    exact zP (fun y hy => .inr hy) hn
   ·cases hset
  ·cases hset
 | _ => intro n off x x' e u l B Bx vs v h; rw [qCe] at h; exact h.elim
def qPP (F : Nat -> Prop) (w : World) (e : TypeId) (t : Ty) (M i off : Nat) (l : List t.T) (B : Nat -> Prop) (v : Value) : Prop :=
 ∃ b c arr fr, v = .slice (some ⟨b, 0, none⟩) l.length c /\ w.heap[b]? = some (.cells arr e fr) /\ qBq arr.size fr /\ c * t.sz <= arr.size /\ l.length <= c /\ B b /\
  ∃ Bs : Nat -> Nat -> Prop, (∀ j x, j < l.length -> Bs j x -> B x /\ x ≠ b) /\ (∀ j k x, j < l.length -> k < l.length -> Bs j x -> Bs k x -> j = k) /\
   (∀ j (h : j < l.length), j ≠ i -> ∃ vs, qV w b (j * t.sz) vs /\ qJ F w t M l[j] (Bs j) vs) /\ ∃ (h : i < l.length) (vs : List Value), qV w b (i * t.sz) vs /\ qCe F w t M off l[i] (Bs i) vs
theorem qKs {F F' : Nat -> Prop} {w w' : World} (hF : ∀ b, F b -> F' b) (ha : qC F w w') {e : TypeId} {t : Ty} {M i off : Nat} {l : List t.T} {B : Nat -> Prop} {v : Value} (hB : qC B w w') (h : qPP F w e t M i off l B v) :
  qPP F' w' e t M i off l B v := by
 obtain ⟨b, c, arr, fr, h1, h2, h3, h4, h5, h6, Bs, h7, h8, h9, hi, us, g1, g2⟩ := h
 refine ⟨b, c, arr, fr, h1, hB _ _ h6 h2, h3, h4, h5, h6, Bs, h7, h8, fun j hj hji => ?_, hi, us, hB.cellsAt h6 g1, qFZ hF ha (hB.mono fun y hy => (h7 i y hi hy).1) g2⟩
 obtain ⟨vs, q1, q2⟩ := h9 j hj hji
 exact ⟨vs, hB.cellsAt h6 q1, jA hF ha (hB.mono fun y hy => (h7 j y hj hy).1) q2⟩
theorem qKt {F : Nat -> Prop} {w : World} {e : TypeId} {t : Ty} {M i off : Nat} {l : List t.T} {B B' : Nat -> Prop} {v : Value} (hB : ∀ b, B b -> B' b) (h : qPP F w e t M i off l B v) : qPP F w e t M i off l B' v := by
 obtain ⟨b, c, arr, fr, h1, h2, h3, h4, h5, h6, Bs, h7, r⟩ := h
 exact ⟨b, c, arr, fr, h1, h2, h3, h4, h5, hB _ h6, Bs, fun j x hj hx => ⟨hB _ (h7 j x hj hx).1, (h7 j x hj hx).2⟩, r⟩
def qM9 (F : Nat -> Prop) (w : World) (t : Ty) (l : List t.T) (B : Nat -> Prop) (v : Value) : Prop :=
 ∃ b es clk, v = .map (some b) /\ w.heap[b]? = some (.map es clk) /\ B b /\ jC (fun (p : t.T) (e : MapEntry) => Rd F w t p [e.key, e.val]) l es.toList
theorem qF1 {F F' : Nat -> Prop} {w w' : World} (hF : ∀ b, F b -> F' b) (ha : qC F w w') {t : Ty} {l : List t.T} {B : Nat -> Prop} {v : Value} (hB : qC B w w') (h : qM9 F w t l B v) : qM9 F' w' t l B v := by
 obtain ⟨b, es, clk, h1, h2, h3, h4⟩ := h
 exact ⟨b, es, clk, h1, hB _ _ h3 h2, h3, h4.imp fun _ _ h => zK hF ha h⟩
theorem qKD {F : Nat -> Prop} {w : World} {t : Ty} {l : List t.T} {B B' : Nat -> Prop} {v : Value} (hB : ∀ b, B b -> B' b) (h : qM9 F w t l B v) : qM9 F w t l B' v := by
 obtain ⟨b, es, clk, h1, h2, h3, h4⟩ := h
 exact ⟨b, es, clk, h1, h2, hB _ h3, h4⟩
def qMh (F : Nat -> Prop) (w : World) (e : TypeId) (t : Ty) (M k : Nat) (l : List t.T) (B : Nat -> Prop) (v : Value) : Prop :=
 ∃ A c, v = .slice A l.length c /\ l.length <= c /\ (l = [] \/ ∃ b arr fr, A = some ⟨b, 0, none⟩ /\ w.heap[b]? = some (.cells arr e fr) /\ qBq arr.size fr /\ c * t.sz <= arr.size /\ B b /\
  ∃ Bs : Nat -> Nat -> Prop, (∀ j x, k <= j -> j < l.length -> Bs j x -> B x /\ x ≠ b) /\ (∀ i j x, k <= i -> k <= j -> i < l.length -> j < l.length -> Bs i x -> Bs j x -> i = j) /\
   ∀ j (h : j < l.length), k <= j -> ∃ vs, qV w b (j * t.sz) vs /\ qJ F w t M l[j] (Bs j) vs)
theorem qKq {F F' : Nat -> Prop} {w w' : World} (hF : ∀ b, F b -> F' b) (ha : qC F w w') {e : TypeId} {t : Ty} {M k : Nat} {l : List t.T} {B : Nat -> Prop} {v : Value} (hB : qC B w w') (h : qMh F w e t M k l B v) :
  qMh F' w' e t M k l B v := by
 obtain ⟨A, c, h1, h2, h | ⟨b, arr, fr, h3, h4, h5, h6, h7, Bs, h8, h9, h10⟩⟩ := h
 ·exact ⟨A, c, h1, h2, .inl h⟩
 ·refine ⟨A, c, h1, h2, .inr ⟨b, arr, fr, h3, hB _ _ h7 h4, h5, h6, h7, Bs, h8, h9, fun j hj hk => ?_⟩⟩
  obtain ⟨vs, q1, q2⟩ := h10 j hj hk
  exact ⟨vs, hB.cellsAt h7 q1, jA hF ha (hB.mono fun y hy => (h8 j y hk hj hy).1) q2⟩
theorem qKr {F : Nat -> Prop} {w : World} {e : TypeId} {t : Ty} {M k : Nat} {l : List t.T} {B B' : Nat -> Prop} {v : Value} (hB : ∀ b, B b -> B' b) (h : qMh F w e t M k l B v) : qMh F w e t M k l B' v := by
 obtain ⟨A, c, h1, h2, h | ⟨b, arr, fr, h3, h4, h5, h6, h7, Bs, h8, r⟩⟩ := h
 ·exact ⟨A, c, h1, h2, .inl h⟩
 ·exact ⟨A, c, h1, h2, .inr ⟨b, arr, fr, h3, h4, h5, h6, hB _ h7, Bs, fun j x hk hj hx => ⟨hB _ (h8 j x hk hj hx).1, (h8 j x hk hj hx).2⟩, r⟩⟩
def zJ (F : Nat -> Prop) (w : World) (r : Row) (B : Nat -> Prop) (v : Value) : Prop := match r.hole with
 | none => qJ F w (.sl r.e r.t) r.m r.l B [v]
 | some (i, off) => (off = zF /\ r.l = [] /\ qM9 F w r.t r.mp B v) \/ (off < zF /\ ∃ M, r.m = M + 1 /\ qPP F w r.e r.t M i off r.l B v) \/
   (off = wT /\ ∃ M, r.m = M + 1 /\ qMh F w r.e r.t M i r.l B v)
theorem zJ.fz {F : Nat -> Prop} {w : World} {r : Row} {B : Nat -> Prop} {v : Value} {k : Nat} (h0 : r.hole = some (k, wT)) (h : zJ F w r B v) : ∃ M, r.m = M + 1 /\ qMh F w r.e r.t M k r.l B v := by
 unfold zJ at h
 rw [h0] at h
 rcases h with ⟨h, _⟩ | ⟨h, _⟩ | ⟨_, h⟩
 ·exact absurd h (by decide)
 ·exact absurd h (by decide)
 ·exact h
theorem zJ.mkFz {F : Nat -> Prop} {w : World} {r : Row} {B : Nat -> Prop} {v : Value} {k M : Nat} (h0 : r.hole = some (k, wT)) (hm : r.m = M + 1) (h : qMh F w r.e r.t M k r.l B v) : zJ F w r B v := by
 unfold zJ
 rw [h0]
 exact .inr (.inr ⟨rfl, M, hm, h⟩)
theorem qID {F : Nat -> Prop} {w : World} {e : TypeId} {t : Ty} {M : Nat} {l : List t.T} {B : Nat -> Prop} {v : Value} (h : qJ F w (.sl e t) (M + 1) l B [v]) : qMh F w e t M 0 l B v := by
 rw [qJ] at h
 obtain ⟨v', e1, A, c, e2, h | ⟨b, arr, fr, h3, h4, h5, h6, h7, h8, Bs, h9, h10, h11⟩⟩ := h
 ·simp only [List.cons.injEq, and_true] at e1
  exact ⟨A, c, by rw [e1, e2], by rw [h.1]; exact Nat.zero_le _, .inl h.1⟩
 ·simp only [List.cons.injEq, and_true] at e1
  exact ⟨A, c, by rw [e1, e2], h7, .inr ⟨b, arr, fr, h3, h4, h5, h6, h8, Bs, fun j x _ hj hx => h9 j x hj hx, fun i j x _ _ hi hj => h10 i j x hi hj, fun j hj _ => h11 j hj⟩⟩
theorem zJ.map {F : Nat -> Prop} {w : World} {r : Row} {B : Nat -> Prop} {v : Value} (h0 : r.isMap = true) (h : zJ F w r B v) : r.l = [] /\ qM9 F w r.t r.mp B v := by
 unfold zJ at h
 unfold Row.isMap at h0
 split at h
 ·rename_i hh; rw [hh] at h0; cases h0
 ·rename_i i off hh
  rw [hh] at h0
  have hm : off = zF := by simpa using h0
  rcases h with ⟨_, h⟩ | ⟨hn, _⟩ | ⟨hn, _⟩
  ·exact h
  ·omega
  ·rw [hm] at hn; exact absurd hn (by decide)
theorem zJ.mkMap {F : Nat -> Prop} {w : World} {r : Row} {B : Nat -> Prop} {v : Value} (h0 : r.isMap = true) (hl : r.l = []) (h : qM9 F w r.t r.mp B v) : zJ F w r B v := by
 unfold zJ
 unfold Row.isMap at h0
 split
 ·rename_i hh; rw [hh] at h0; cases h0
 ·rename_i i off hh
  rw [hh] at h0
  exact .inl ⟨by simpa using h0, hl, h⟩
theorem zJ.whole {F : Nat -> Prop} {w : World} {r : Row} {B : Nat -> Prop} {v : Value} (h0 : r.hole = none) (h : zJ F w r B v) : qJ F w (.sl r.e r.t) r.m r.l B [v] := by
 unfold zJ at h; rw [h0] at h; exact h
theorem zJ.mk {F : Nat -> Prop} {w : World} {r : Row} {B : Nat -> Prop} {v : Value} (h0 : r.hole = none) (h : qJ F w (.sl r.e r.t) r.m r.l B [v]) : zJ F w r B v := by
 unfold zJ; rw [h0]; exact h
theorem vO {F F' : Nat -> Prop} {w w' : World} (hF : ∀ b, F b -> F' b) (ha : qC F w w') {r : Row} {B : Nat -> Prop} {v : Value} (hB : qC B w w') (h : zJ F w r B v) : zJ F' w' r B v := by
 unfold zJ at h ⊢
 split at h
 ·exact jA hF ha hB h
 ·rcases h with ⟨hm, hl, h⟩ | ⟨hm, M, e, h⟩ | ⟨hm, M, e, h⟩
  ·exact .inl ⟨hm, hl, qF1 hF ha hB h⟩
  ·exact .inr (.inl ⟨hm, M, e, qKs hF ha hB h⟩)
  ·exact .inr (.inr ⟨hm, M, e, qKq hF ha hB h⟩)
theorem qFY {F : Nat -> Prop} {w : World} {r : Row} {B B' : Nat -> Prop} {v : Value} (hB : ∀ b, B b -> B' b) (h : zJ F w r B v) : zJ F w r B' v := by
 unfold zJ at h ⊢
 split at h
 ·exact zP hB h
 ·rcases h with ⟨hm, hl, h⟩ | ⟨hm, M, e, h⟩ | ⟨hm, M, e, h⟩
  ·exact .inl ⟨hm, hl, qKD hB h⟩
  ·exact .inr (.inl ⟨hm, M, e, qKt hB h⟩)
  ·exact .inr (.inr ⟨hm, M, e, qKr hB h⟩)
structure Env where
 F : Nat -> Prop
 on : Nat -> Prop
 val : Nat -> Value
 ty : Nat -> Ty
 ft : Nat -> Nat -> Prop
 blk : Nat -> Nat
def Ty.slTy : Ty -> Nat -> Option (TypeId × Ty)
 | .prod a b, off => if off < a.sz then a.slTy off else b.slTy (off - a.sz)
 | .sl e t, off => if off = 0 then some (e, t) else none
 | _, _ => none
theorem qAT : ∀ {t : Ty} {x : t.T} {off : Nat} {e : TypeId} {u : Ty} {l : List u.T}, t.slAt x off = some ⟨e, u, l⟩ -> t.slTy off = some (e, u) := by
 intro t
 induction t with
 | prod a b iha ihb =>
  intro x off e u l h
  simp only [Ty.slAt, Ty.slTy] at h ⊢
  split at h
  ·rename_i h0; rw [if_pos h0]; exact iha h
  ·rename_i h0; rw [if_neg h0]; exact ihb h
 | sl e t iht =>
  intro x off e' u l h
  simp only [Ty.slAt, Ty.slTy] at h ⊢
  split at h
  ·rename_i h0
   simp only [Option.some.injEq, Sigma.mk.injEq] at h
   obtain ⟨rfl, h⟩ := h
   obtain ⟨rfl, h⟩ := (Sigma.mk.injEq ..).mp (eq_of_heq h)
   rw [if_pos h0]
  ·cases h
 | _ => intro x off e u l h; simp [Ty.slAt] at h
def xP (v : Value) (b n c : Nat) : Prop := v = .slice (some ⟨b, 0, none⟩) n c
def zQ (ρ : Env) (w : World) : CV -> Value -> Prop
 | .undef, v => v.oneCell' = true
 | .int k n, v => v = .int k n
 | .bool b, v => v = .bool b
 | .str s, v => v = .string ⟨⟨s⟩⟩
 | .emp _ _, v => ∃ a, v = .slice a 0 0
 | .dat _ t l, v => qDd ρ.F w t l v
 | .own d, v => v = ρ.val d /\ v.oneCell' = true
 | .vw d lo hi, v => ∃ a n c a', ρ.val d = .slice a n c /\ lo <= hi /\ hi <= n /\ n <= c /\ v = .slice a' (hi - lo) (c - lo) /\ (lo < c -> a' = a.map (·.add (lo * (ρ.ty d).sz)))
 | .nref d i off, v => (ρ.on d /\ ∃ b n c, xP (ρ.val d) b n c /\ i < n /\ w.cell? ⟨b, i * (ρ.ty d).sz + off, none⟩ = some v) /\ True /\ v.oneCell' = true
 | .pbox b off, v => v = .pointer (some ⟨ρ.blk b, off, none⟩)
 | .pelt d i off, v => ∃ b n c, xP (ρ.val d) b n c /\ i < n /\ v = .pointer (some ⟨b, i * (ρ.ty d).sz + off, none⟩)
 | .pn d i off j off2, v => ρ.on d /\ ∃ b n c e u b' n' c', xP (ρ.val d) b n c /\ i < n /\ (ρ.ty d).slTy off = some (e, u) /\ w.cell? ⟨b, i * (ρ.ty d).sz + off, none⟩ = some (.slice (some ⟨b', 0, none⟩) n' c') /\
   j < n' /\ v = .pointer (some ⟨b', j * u.sz + off2, none⟩)
 | .pdat _ t x off, v => ∃ b o cs, v = .pointer (some ⟨b, o + off, none⟩) /\ ρ.F b /\ qV w b o cs /\ Rd ρ.F w t x cs
 | .kon u, v => v = u /\ v.oneCell' = true
 | .fn .., _ => False
 | .row _, _ => False
 | .boxr .., _ => False
def Shaped (R : CV -> Value -> Prop) : List (Bool × Nat) -> List CV -> List Value -> Prop
 | [], cs, vs => cs = [] /\ vs = []
 | (true, k) :: sh, cs, v :: vs => ∃ arr, v = .agg arr /\ k <= cs.length /\ jC R (cs.take k) arr.toList /\ Shaped R sh (cs.drop k) vs
 | (false, _) :: sh, c :: cs, v :: vs => R c v /\ Shaped R sh cs vs
 | _, _, _ => False
def CVR (ρ : Env) (w : World) : CV -> Value -> Prop
 | .fn f sh n cs, v => ∃ first caps, v = .func (.func f) first caps /\ first.size = n /\ Shaped (zQ ρ w) sh cs (first.toList ++ caps.toList)
 | x, v => zQ ρ w x v
def qEH (ρ : Env) (w : World) : SV -> Value -> Prop
 | .undef, v => v = Go.undef
 | .c x, v => CVR ρ w x v
 | .agg xs, v => ∃ arr, v = .agg arr /\ jC (CVR ρ w) xs arr.toList
 | .tup _, _ => False
 | .clo .., _ => False
def SVR (ρ : Env) (w : World) : SV -> Value -> Prop
 | .tup xs, v => ∃ arr, v = .tuple arr /\ jC (qEH ρ w) xs arr.toList
 | x, v => qEH ρ w x v
def qPO (ρ : Env) (w : World) (d : Nat) (r : Row) : Prop := True /\ ρ.ty d = r.t /\ zJ ρ.F w r (ρ.ft d) (ρ.val d) /\ (r.l ≠ [] -> ∃ b n c, xP (ρ.val d) b n c)
def xK (it : Bool) (ob : Option Obj) (e : TypeId) (arr : Array Value) (fr : Nat × Nat) : Prop := match it with
 | false => ob = some (.cells arr e fr)
 | true => ∃ (s : List UInt8) (p : Nat), ob = some (.stringIter ⟨⟨s⟩⟩ p) /\ arr = #[.string ⟨⟨s⟩⟩, .int .i64 (p : Int)]
theorem xK.cells {it : Bool} {ob : Option Obj} {e : TypeId} {arr : Array Value} {fr : Nat × Nat} (h : xK it ob e arr fr) (he : it = false) : ob = some (.cells arr e fr) := by
 subst he; exact h
theorem xK.of {it : Bool} {ob : Option Obj} {e : TypeId} {arr : Array Value} {fr : Nat × Nat} (h : ob = some (.cells arr e fr)) (he : it = false) : xK it ob e arr fr := by
 subst he; exact h
theorem xK.some {it : Bool} {ob : Option Obj} {e : TypeId} {arr : Array Value} {fr : Nat × Nat} (h : xK it ob e arr fr) : ∃ o, ob = some o := by
 cases it with
 | false => exact ⟨_, h⟩
 | true => obtain ⟨s, p, h, _⟩ := h; exact ⟨_, h⟩
theorem xK.lt {it : Bool} {w : World} {b : Nat} {e : TypeId} {arr : Array Value} {fr : Nat × Nat} (h : xK it w.heap[b]? e arr fr) : b < w.heap.size := by
 obtain ⟨o, ho⟩ := h.some
 rcases Nat.lt_or_ge b w.heap.size with h' | h'
 ·exact h'
 ·rw [Array.getElem?_eq_none h'] at ho; cases ho
theorem xK.agree {it : Bool} {S : Nat -> Prop} {w w' : World} {b : Nat} {e : TypeId} {arr : Array Value} {fr : Nat × Nat} (h : xK it w.heap[b]? e arr fr) (ha : qC S w w') (hs : S b) : xK it w'.heap[b]? e arr fr := by
 obtain ⟨o, ho⟩ := h.some
 rw [ha b o hs ho, <- ho]; exact h
def qPV (ρ : Env) (w : World) (b : Nat) (x : Box) : Prop := ∃ arr fr, xK x.it (w.heap[ρ.blk b]?) x.e arr fr /\ qBq arr.size fr /\ jC (CVR ρ w) x.cs arr.toList
structure Fix where
 N : Nat
 w0 : World
 B0 : Nat -> Prop
 val0 : Nat -> Value
 blk0 : Nat -> Nat
 F0 : Nat -> Prop
def Fix.mine (φ : Fix) (b : Nat) : Prop := φ.B0 b \/ φ.w0.heap.size <= b
def zD (w w' : World) : Prop := w'.os = w.os /\ w'.tape = w.tape /\ w'.output = w.output
theorem zD.refl (w : World) : zD w w := ⟨rfl, rfl, rfl⟩
theorem zD.trans {w w' w'' : World} (h : zD w w') (h' : zD w' w'') : zD w w'' := ⟨h'.1.trans h.1, h'.2.1.trans h.2.1, h'.2.2.trans h.2.2⟩
def tabG : Option Nat := some 0
def qQD : Array Value := (((List.range 20).map fun i => ((10 ^ i : Nat) : Int)).map fun z => Value.int .u64 z).toArray
def TabOK (F : Nat -> Prop) (w : World) : Prop := ∀ g, tabG = some g -> F g /\ ∃ e fr, w.heap[g]? = some (.cells qQD e fr)
theorem TabOK.step {F F' : Nat -> Prop} {w w' : World} (h : TabOK F w) (hF : ∀ y, F y -> F' y) (hw : ∀ y, F y -> y < w.heap.size -> w'.heap[y]? = w.heap[y]?) : TabOK F' w' := fun g hg => by
 obtain ⟨h1, e, fr, h2⟩ := h g hg
 have hlt : g < w.heap.size := by
  rcases Nat.lt_or_ge g w.heap.size with h' | h'
  ·exact h'
  ·rw [Array.getElem?_eq_none h'] at h2; cases h2
 exact ⟨hF g h1, e, fr, (hw g h1 hlt).trans h2⟩
structure Rep (φ : Fix) (ρ : Env) (st : St) (a : Act) (w : World) : Prop where
 size : a.tmps.size = φ.N
 nodef : a.defers = []
 on : ∀ d, ρ.on d -> ∃ r, qL d st.rows = some r
 slots : ∀ s v, qL s st.slots = some v -> s < φ.N /\ SVR ρ w v (a.tmps.getD s undef)
 rows : ∀ d r, qL d st.rows = some r -> qPO ρ w d r
 boxes : ∀ b x, qL b st.boxes = some x -> qPV ρ w b x
 rsep : ∀ d d' r r', qL d st.rows = some r -> qL d' st.rows = some r' -> d ≠ d' -> ∀ y, ρ.ft d y -> ¬ ρ.ft d' y
 rF : ∀ d r, qL d st.rows = some r -> ∀ y, ρ.ft d y -> ¬ ρ.F y /\ y < w.heap.size /\ φ.mine y
 rb : ∀ d r b x, qL d st.rows = some r -> qL b st.boxes = some x -> ¬ ρ.ft d (ρ.blk b)
 bsep : ∀ b b' x x', qL b st.boxes = some x -> qL b' st.boxes = some x' -> b ≠ b' -> ρ.blk b ≠ ρ.blk b'
 bF : ∀ b x, qL b st.boxes = some x -> (x.ro = false -> ¬ ρ.F (ρ.blk b)) /\ φ.mine (ρ.blk b)
 Fbd : ∀ y, ρ.F y -> y < w.heap.size /\ (φ.F0 y \/ φ.mine y)
 F0 : ∀ y, φ.F0 y -> ρ.F y
 grow : φ.w0.heap.size <= w.heap.size
 io : zD φ.w0 w
 keep : ∀ b, b < φ.w0.heap.size -> ¬ φ.B0 b -> w.heap[b]? = φ.w0.heap[b]?
 lentR : ∀ d, d ∈ st.lentR -> ρ.val d = φ.val0 d
 lentB : ∀ b, b ∈ st.lentB -> ρ.blk b = φ.blk0 b
 tab : TabOK φ.F0 φ.w0 /\ ∀ y, φ.B0 y -> ¬ φ.F0 y
theorem wU {st : St} {b : Nat} {x : Box} (h : st.box? b = some x) : qL b st.boxes = some x /\ x.it = false := by
 unfold St.box? at h
 split at h
 ·rename_i y hy
  split at h
  ·cases h
  ·rename_i hn
   simp only [Option.some.injEq] at h
   subst h
   exact ⟨hy, by simpa using hn⟩
 ·cases h
theorem Rep.cellsBox {φ : Fix} {ρ : Env} {st : St} {a : Act} {w : World} (h : Rep φ ρ st a w) {b : Nat} {x : Box} (hb : st.box? b = some x) : ∃ arr fr, w.heap[ρ.blk b]? = some (.cells arr x.e fr) /\ qBq arr.size fr /\ jC (CVR ρ w) x.cs arr.toList := by
 obtain ⟨arr, fr, h1, h2, h3⟩ := h.boxes b x (wU hb).1
 exact ⟨arr, fr, h1.cells (wU hb).2, h2, h3⟩
theorem Rep.tabNow {φ : Fix} {ρ : Env} {st : St} {a : Act} {w : World} (h : Rep φ ρ st a w) : TabOK ρ.F w :=
 h.tab.1.step h.F0 fun y hy hlt => h.keep y hlt fun hb => h.tab.2 y hb hy
theorem qP {α : Type} (k j : Nat) (a : α) : ∀ (l : List (Nat × α)), qL j (put k a l) = if j = k then some a else qL j l
 | [] => by simp only [put, qL]; by_cases h : k = j <;> simp [h, eq_comm]
 | (i, b) :: l => by
  have ih := qP k j a l
  simp only [put]
  split
  ·rename_i h; subst h
   simp only [qL]
   by_cases h : i = j
   ·subst h; simp
   ·rw [if_neg h, if_neg h, if_neg (Ne.symm h)]
  ·rename_i h
   split
   ·simp only [qL]
    by_cases h' : k = j
    ·subst h'; simp
    ·rw [if_neg h', if_neg (Ne.symm h')]
   ·simp only [qL]
    rw [ih]
    by_cases h' : i = j
    ·subst h'; rw [if_pos rfl, if_pos rfl, if_neg h]
    ·rw [if_neg h', if_neg h']
theorem qCi {α β : Type} (f : α -> β) (k : Nat) : ∀ (l : List (Nat × α)), qL k (l.map fun x => (x.1, f x.2)) = (qL k l).map f
 | [] => rfl
 | (i, b) :: l => by
  simp only [List.map, qL]
  split
  ·rfl
  ·exact qCi f k l
theorem kT {α : Type} (p : Nat -> Bool) (k : Nat) : ∀ (l : List (Nat × α)), qL k (l.filter fun x => p x.1) = if p k then qL k l else none
 | [] => by simp [qL]
 | (i, b) :: l => by
  have ih := kT p k l
  rw [List.filter_cons]
  split
  ·rename_i h
   simp only [qL]
   by_cases h' : i = k
   ·subst h'; simp only [] at h; simp [h]
   ·rw [if_neg h', if_neg h', ih]
  ·rename_i h
   rw [ih]
   simp only [qL]
   by_cases h' : i = k
   ·subst h'; simp only [] at h; simp [h]
   ·rw [if_neg h']
theorem wL {α : Type} (k j : Nat) (l : List (Nat × α)) : qL j (del k l) = if j = k then none else qL j l := by
 rw [del, kT (fun i => !(i == k))]
 by_cases h : j = k <;> simp [h]
structure jM (ρ ρ' : Env) (w w' : World) (c : CV) : Prop where
 F : ∀ b, ρ.F b -> ρ'.F b
 agree : qC ρ.F w w'
 row : ∀ d, c.says (CV.speaks d) = true -> ρ'.val d = ρ.val d /\ ρ'.ty d = ρ.ty d
 nest : ∀ d, c.says (CV.nested d) = true -> ρ.on d -> ρ'.on d /\ ∀ b n k, 0 < n -> xP (ρ.val d) b n k -> qC (· = b) w w'
 box : ∀ b, c.says (CV.pts b) = true -> ρ'.blk b = ρ.blk b
theorem wO {p : CV -> Bool} {x : CV} (h : p x = true) : x.says p = true := by simp [CV.says, h]
theorem qDk {ρ ρ' : Env} {w w' : World} {c : CV} {v : Value} (m : jM ρ ρ' w w' c) (h : zQ ρ w c v) : zQ ρ' w' c v := by
 cases c with
 | dat e t l => exact vX m.F m.agree h
 | pdat e t x off =>
  obtain ⟨b, o, cs, e1, h1, h2, h3⟩ := h
  exact ⟨b, o, cs, e1, m.F _ h1, m.agree.cellsAt h1 h2, zK m.F m.agree h3⟩
 | own d => obtain ⟨h1, h2⟩ := m.row d (wO (by simp [CV.speaks])); exact ⟨h.1.trans h1.symm, h.2⟩
 | vw d lo hi =>
  obtain ⟨h1, h2⟩ := m.row d (wO (by simp [CV.speaks]))
  obtain ⟨a, n, c, a', g1, g2⟩ := h
  exact ⟨a, n, c, a', by rw [h1]; exact g1, by rw [h2]; exact g2⟩
 | nref d i off =>
  obtain ⟨h1, h2⟩ := m.row d (wO (by simp [CV.speaks]))
  obtain ⟨⟨g0, b, n, c, g1, g2, g3⟩, _, g4⟩ := h
  obtain ⟨h3, h4⟩ := m.nest d (wO (by simp [CV.nested])) g0
  refine ⟨⟨h3, b, n, c, by rw [h1]; exact g1, g2, ?_⟩, trivial, g4⟩
  rw [h2]
  exact (h4 b n c (by omega) g1).cell rfl g3
 | pbox b off => have h1 := m.box b (wO (by simp [CV.pts])); simp only [zQ] at h ⊢; rw [h, h1]
 | pelt d i off =>
  obtain ⟨h1, h2⟩ := m.row d (wO (by simp [CV.speaks]))
  obtain ⟨b, n, c, g1, g2, g3⟩ := h
  exact ⟨b, n, c, by rw [h1]; exact g1, g2, by rw [h2]; exact g3⟩
 | pn d i off j off2 =>
  obtain ⟨h1, h2⟩ := m.row d (wO (by simp [CV.speaks]))
  obtain ⟨g0, b, n, c, e, u, b', n', c', g1, g2, g3, g4, g5, g6⟩ := h
  obtain ⟨h3, h4⟩ := m.nest d (wO (by simp [CV.nested])) g0
  refine ⟨h3, b, n, c, e, u, b', n', c', by rw [h1]; exact g1, g2, by rw [h2]; exact g3, ?_, g5, g6⟩
  rw [h2]
  exact (h4 b n c (by omega) g1).cell rfl g4
 | _ => exact h
theorem jM.part {ρ ρ' : Env} {w w' : World} {f : FuncId} {sh : List (Bool × Nat)} {n : Nat} {cs : List CV} (m : jM ρ ρ' w w' (.fn f sh n cs)) {c : CV} (hc : c ∈ cs) (hn : ∀ f' sh' n' cs', c ≠ .fn f' sh' n' cs') :
  jM ρ ρ' w w' c := by
 have up : ∀ p : CV -> Bool, c.says p = true -> (CV.fn f sh n cs).says p = true := fun p h => by
  have hp : p c = true := by
   cases c <;> first | exact absurd rfl (hn _ _ _ _) | simpa [CV.says] using h
  simp only [CV.says, Bool.or_eq_true, List.any_eq_true]
  exact .inr ⟨c, hc, hp⟩
 exact ⟨m.F, m.agree, fun d h => m.row d (up _ h), fun d h => m.nest d (up _ h), fun b h => m.box b (up _ h)⟩
theorem qGR {ρ : Env} {w : World} {c : CV} {v : Value} (h : zQ ρ w c v) : ∀ f sh n cs, c ≠ .fn f sh n cs := by
 rintro f sh n cs rfl; exact h
theorem jC.impMem {α β : Type} {R S : α -> β -> Prop} : ∀ {l : List α} {r : List β}, (∀ a b, a ∈ l -> R a b -> S a b) -> jC R l r -> jC S l r
 | [], [], _, _ => trivial
 | _ :: _, _ :: _, h, p => ⟨h _ _ List.mem_cons_self p.1, jC.impMem (fun a b ha => h a b (List.mem_cons_of_mem _ ha)) p.2⟩
theorem Shaped.impMem {R S : CV -> Value -> Prop} : ∀ {sh : List (Bool × Nat)} {cs : List CV} {vs : List Value}, (∀ a b, a ∈ cs -> R a b -> S a b) -> Shaped R sh cs vs -> Shaped S sh cs vs
 | [], cs, vs, _, h => by simpa [Shaped] using h
 | (true, k) :: sh, cs, [], _, h => by simp [Shaped] at h
 | (true, k) :: sh, cs, v :: vs, hi, h => by
  obtain ⟨arr, e, hk, h1, h2⟩ := h
  exact ⟨arr, e, hk, h1.impMem fun a b ha => hi a b (List.mem_of_mem_take ha), Shaped.impMem (fun a b ha => hi a b (List.mem_of_mem_drop ha)) h2⟩
 | (false, _) :: sh, [], vs, _, h => by simp [Shaped] at h
 | (false, _) :: sh, c :: cs, [], _, h => by simp [Shaped] at h
 | (false, _) :: sh, c :: cs, v :: vs, hi, h => ⟨hi _ _ List.mem_cons_self h.1, Shaped.impMem (fun a b ha => hi a b (List.mem_cons_of_mem _ ha)) h.2⟩
theorem jP {ρ ρ' : Env} {w w' : World} {c : CV} {v : Value} (m : jM ρ ρ' w w' c) (h : CVR ρ w c v) : CVR ρ' w' c v := by
 cases c with
 | fn f sh n cs =>
  obtain ⟨first, caps, e, hs, hh⟩ := h
  exact ⟨first, caps, e, hs, hh.impMem fun a b ha hr => qDk (m.part ha (qGR hr)) hr⟩
 | _ => exact qDk (v := v) m h
def SV.all : SV -> List CV
 | .undef => []
 | .c x => [x]
 | .agg xs => xs
 | .tup vs => vs.flatMap fun | .c x => [x] | .agg xs => xs | _ => []
 | .clo .. => []
theorem qDb {ρ ρ' : Env} {w w' : World} {s : SV} {v : Value} (m : ∀ c, c ∈ s.all -> jM ρ ρ' w w' c) (h : qEH ρ w s v) : qEH ρ' w' s v := by
 cases s with
 | undef => exact h
 | c x => exact jP (m x (by simp [SV.all])) h
 | agg xs => obtain ⟨arr, e, h⟩ := h; exact ⟨arr, e, h.impMem fun a b ha hr => jP (m a ha) hr⟩
 | tup _ => exact h
 | clo _ _ _ => exact h
theorem kF {ρ ρ' : Env} {w w' : World} {s : SV} {v : Value} (m : ∀ c, c ∈ s.all -> jM ρ ρ' w w' c) (h : SVR ρ w s v) : SVR ρ' w' s v := by
 cases s with
 | tup vs =>
  obtain ⟨arr, e, h⟩ := h
  refine ⟨arr, e, h.impMem fun a b ha hr => qDb (fun c hc => m c ?_) hr⟩
  simp only [SV.all, List.mem_flatMap]
  refine ⟨a, ha, ?_⟩
  cases a <;> simp_all [SV.all, qEH]
 | clo _ _ _ => exact h.elim
 | _ => exact qDb m h
theorem jM.same {ρ : Env} {w w' : World} (h : ∀ S, qC S w w') (c : CV) : jM ρ ρ w w' c :=
 ⟨fun _ h => h, h _, fun _ _ => ⟨rfl, rfl⟩, fun _ _ ho => ⟨ho, fun _ _ _ _ _ => h _⟩, fun _ _ => rfl⟩
theorem qLx {ρ : Env} {w : World} {c : CV} {v : Value} (h : zQ ρ w c v) : v.oneCell' = true := by
 cases c with
 | undef => exact h
 | int => rw [show v = _ from h]; rfl
 | bool => rw [show v = _ from h]; rfl
 | str => rw [show v = _ from h]; rfl
 | emp => obtain ⟨_, rfl⟩ := h; rfl
 | dat => obtain ⟨_, _, rfl, _⟩ := h; rfl
 | own => exact h.2
 | vw => obtain ⟨_, _, _, _, _, _, _, _, rfl, _⟩ := h; rfl
 | nref => exact h.2.2
 | pbox => rw [show v = _ from h]; rfl
 | pelt => obtain ⟨_, _, _, _, _, rfl⟩ := h; rfl
 | pn => obtain ⟨_, _, _, _, _, _, _, _, _, _, _, _, _, _, rfl⟩ := h; rfl
 | pdat => obtain ⟨_, _, _, rfl, _⟩ := h; rfl
 | kon => exact h.2
 | _ => exact h.elim
theorem qAc {ρ : Env} {w : World} {c : CV} {v : Value} (h : CVR ρ w c v) : v.oneCell' = true := by
 cases c with
 | fn => obtain ⟨_, _, rfl, _⟩ := h; rfl
 | _ => simp only [CVR] at h; exact qLx h
theorem qBG {p : CV -> Bool} {ρ ρ' : Env} {w w' : World} {c : CV} {v : Value} (m : c.says p = false -> jM ρ ρ' w w' c) (h : CVR ρ w c v) : CVR ρ' w' (c.kill p) v := by
 unfold CV.kill
 split
 ·exact qAc h
 ·rename_i hp; exact jP (m (by simpa using hp)) h
theorem yF {α β γ : Type} {R : α -> β -> Prop} {S : γ -> β -> Prop} {f : α -> γ} : ∀ {l : List α} {r : List β}, (∀ a b, a ∈ l -> R a b -> S (f a) b) -> jC R l r -> jC S (l.map f) r
 | [], [], _, _ => trivial
 | _ :: _, _ :: _, h, p => ⟨h _ _ List.mem_cons_self p.1, yF (fun a b ha => h a b (List.mem_cons_of_mem _ ha)) p.2⟩
theorem qEg {p : CV -> Bool} {ρ ρ' : Env} {w w' : World} {s : SV} {v : Value} (m : ∀ c, c ∈ s.all -> c.says p = false -> jM ρ ρ' w w' c) (h : qEH ρ w s v) : qEH ρ' w' (s.kill1 p) v := by
 cases s with
 | undef => exact h
 | c x => exact qBG (m x (by simp [SV.all])) h
 | agg xs => obtain ⟨arr, e, h⟩ := h; exact ⟨arr, e, yF (fun a b ha hr => qBG (m a ha) hr) h⟩
 | tup _ => exact h
 | clo _ _ _ => exact h
theorem qLa {p : CV -> Bool} {ρ ρ' : Env} {w w' : World} {s : SV} {v : Value} (m : ∀ c, c ∈ s.all -> c.says p = false -> jM ρ ρ' w w' c) (h : SVR ρ w s v) : SVR ρ' w' (s.kill p) v := by
 cases s with
 | tup vs =>
  obtain ⟨arr, e, h⟩ := h
  refine ⟨arr, e, yF (fun a b ha hr => qEg (fun c hc => m c ?_) hr) h⟩
  simp only [SV.all, List.mem_flatMap]
  refine ⟨a, ha, ?_⟩
  cases a <;> simp_all [SV.all, qEH]
 | undef => exact h
 | c x => exact qEg m h
 | agg xs => exact qEg m h
 | clo _ _ _ => exact h.elim
theorem qLe {a : Act} {d s : Nat} {v : Value} (hd : d < a.tmps.size) : (a.put (some d) v).tmps.getD s undef = if s = d then v else a.tmps.getD s undef := by
 simp only [Act.put, Array.getD_eq_getD_getElem?, Array.getElem?_setIfInBounds]
 by_cases h : d = s
 ·subst h; simp [hd]
 ·simp [h, Ne.symm h]
theorem qKW {a : Act} {d : Option Nat} {v : Value} : (a.put d v).tmps.size = a.tmps.size := by cases d <;> simp [Act.put]
theorem qGf {a : Act} {d : Option Nat} {v : Value} : (a.put d v).defers = a.defers := by cases d <;> rfl
theorem Rep.set {φ : Fix} {ρ : Env} {st : St} {a : Act} {w : World} {d : Nat} {v : SV} {v' : Value} (h : Rep φ ρ st a w) (hd : d < φ.N) (hv : SVR ρ w v v') :
  Rep φ ρ (st.set d v) (a.put (some d) v') w := by
 refine { h with size := by rw [qKW]; exact h.size, nodef := by rw [qGf]; exact h.nodef, slots := fun s u hs => ?_ }
 rw [qLe (by rw [h.size]; exact hd)]
 simp only [St.set, qP] at hs
 by_cases e : s = d
 ·rw [if_pos e] at hs ⊢; simp only [Option.some.injEq] at hs; subst hs; subst e; exact ⟨hd, hv⟩
 ·rw [if_neg e] at hs ⊢; exact h.slots s u hs
theorem Rep.setO {φ : Fix} {ρ : Env} {st : St} {a : Act} {w : World} {d : Option Nat} {v : SV} {v' : Value} (h : Rep φ ρ st a w) (hd : ∀ s, d = some s -> s < φ.N) (hv : SVR ρ w v v') :
  Rep φ ρ (st.setO d v) (a.put d v') w := by
 cases d with
 | none => exact h
 | some s => exact h.set (hd s rfl) hv
structure jO (w w' : World) : Prop where
 size : w.heap.size <= w'.heap.size
 blk : ∀ b, b < w.heap.size -> w'.heap[b]? = w.heap[b]?
 io : zD w w'
theorem jO.refl (w : World) : jO w w := ⟨Nat.le_refl _, fun _ _ => rfl, zD.refl _⟩
theorem jO.trans {w w' w'' : World} (h : jO w w') (h' : jO w' w'') : jO w w'' :=
 ⟨Nat.le_trans h.1 h'.1, fun b hb => (h'.2 b (Nat.lt_of_lt_of_le hb h.1)).trans (h.2 b hb), h.io.trans h'.io⟩
theorem jO.agree {w w' : World} (h : jO w w') (S : Nat -> Prop) : qC S w w' := fun b o _ hb => by
 have : b < w.heap.size := by
  rcases Nat.lt_or_ge b w.heap.size with h' | h'
  ·exact h'
  ·simp [Array.getElem?_eq_none h'] at hb
 rw [h.2 b this]; exact hb
theorem Rep.grows {φ : Fix} {ρ : Env} {st : St} {a : Act} {w w' : World} (h : Rep φ ρ st a w) (g : jO w w') : Rep φ ρ st a w' where
 size := h.size
 nodef := h.nodef
 on := h.on
 slots s v hs := ⟨(h.slots s v hs).1, kF (fun c _ => jM.same g.agree c) (h.slots s v hs).2⟩
 rows d r hr := ⟨(h.rows d r hr).1, (h.rows d r hr).2.1, vO (fun _ h => h) (g.agree _) (g.agree _) (h.rows d r hr).2.2.1, (h.rows d r hr).2.2.2⟩
 boxes b x hx := by
  obtain ⟨arr, fr, h1, h2, h3⟩ := h.boxes b x hx
  exact ⟨arr, fr, h1.agree (g.agree fun _ => True) trivial, h2, h3.imp fun _ _ => jP (jM.same g.agree _)⟩
 rsep := h.rsep
 rF d r hr y hy := ⟨(h.rF d r hr y hy).1, Nat.lt_of_lt_of_le (h.rF d r hr y hy).2.1 g.1, (h.rF d r hr y hy).2.2⟩
 rb := h.rb
 bsep := h.bsep
 bF := h.bF
 Fbd y hy := ⟨Nat.lt_of_lt_of_le (h.Fbd y hy).1 g.1, (h.Fbd y hy).2⟩
 F0 := h.F0
 grow := Nat.le_trans h.grow g.1
 io := h.io.trans g.io
 tab := h.tab
 keep b hb hn := (g.2 b (Nat.lt_of_lt_of_le hb h.grow)).trans (h.keep b hb hn)
 lentR := h.lentR
 lentB := h.lentB
theorem jU {st : St} {p : CV -> Bool} {s : Nat} {v : SV} (h : qL s (st.kill p).slots = some v) : ∃ u, qL s st.slots = some u /\ v = u.kill p := by
 simp only [St.kill] at h
 have := qCi (SV.kill p) s st.slots
 rw [this] at h
 cases hu : qL s st.slots with
 | none => rw [hu] at h; cases h
 | some u => rw [hu] at h; exact ⟨u, rfl, by simpa using h.symm⟩
theorem qK {st : St} {p : CV -> Bool} {b : Nat} {x : Box} (h : qL b (st.kill p).boxes = some x) :
  ∃ y, qL b st.boxes = some y /\ x = { y with cs := y.cs.map (CV.kill p) } := by
 simp only [St.kill] at h
 have := qCi (fun y : Box => { y with cs := y.cs.map (CV.kill p) }) b st.boxes
 rw [this] at h
 cases hu : qL b st.boxes with
 | none => rw [hu] at h; cases h
 | some u => rw [hu] at h; exact ⟨u, rfl, by simpa using h.symm⟩
theorem qJF {st : St} {p : CV -> Bool} {b : Nat} {y : Box} (h : qL b st.boxes = some y) : qL b (st.kill p).boxes = some { y with cs := y.cs.map (CV.kill p) } := by
 simp only [St.kill]
 have := qCi (fun y : Box => { y with cs := y.cs.map (CV.kill p) }) b st.boxes
 rw [this, h]; rfl
theorem Rep.slots_kill {φ : Fix} {ρ ρ' : Env} {st : St} {a : Act} {w w' : World} {p : CV -> Bool} (h : Rep φ ρ st a w) (m : ∀ c, c.says p = false -> jM ρ ρ' w w' c) :
  ∀ s v, qL s (st.kill p).slots = some v -> s < φ.N /\ SVR ρ' w' v (a.tmps.getD s undef) := by
 intro s v hs
 obtain ⟨u, hu, rfl⟩ := jU hs
 exact ⟨(h.slots s u hu).1, qLa (fun c _ hc => m c hc) (h.slots s u hu).2⟩
theorem Rep.boxes_kill {φ : Fix} {ρ ρ' : Env} {st : St} {a : Act} {w w' : World} {p : CV -> Bool} (h : Rep φ ρ st a w) (m : ∀ c, c.says p = false -> jM ρ ρ' w w' c)
  (hb : ∀ b x, qL b st.boxes = some x -> ρ'.blk b = ρ.blk b /\ w'.heap[ρ.blk b]? = w.heap[ρ.blk b]?) :
  ∀ b x, qL b (st.kill p).boxes = some x -> qPV ρ' w' b x := by
 intro b x hx
 obtain ⟨y, hy, rfl⟩ := qK hx
 obtain ⟨arr, fr, h1, h2, h3⟩ := h.boxes b y hy
 obtain ⟨e1, e2⟩ := hb b y hy
 exact ⟨arr, fr, by rw [e1, e2]; exact h1, h2, yF (fun c v _ hc => qBG (m c) hc) h3⟩
theorem Rep.kill {φ : Fix} {ρ : Env} {st : St} {a : Act} {w : World} (h : Rep φ ρ st a w) (p : CV -> Bool) : Rep φ ρ (st.kill p) a w := by
 have m : ∀ c : CV, c.says p = false -> jM ρ ρ w w c := fun c _ => jM.same (fun S => qC.refl S w) c
 have hbx : ∀ {b x}, qL b (st.kill p).boxes = some x -> ∃ y, qL b st.boxes = some y /\ y.ro = x.ro := fun hx => by
  obtain ⟨y, hy, e⟩ := qK hx; exact ⟨y, hy, by rw [e]⟩
 exact { h with
  slots := h.slots_kill m, boxes := h.boxes_kill m fun _ _ _ => ⟨rfl, rfl⟩, rows := h.rows, rsep := h.rsep, rF := h.rF
  rb := fun d r b x hr hx => by obtain ⟨y, hy, _⟩ := hbx hx; exact h.rb d r b y hr hy
  bsep := fun b b' x x' hx hx' hn => by obtain ⟨y, hy, _⟩ := hbx hx; obtain ⟨y', hy', _⟩ := hbx hx'; exact h.bsep b b' y y' hy hy' hn
  bF := fun b x hx => by obtain ⟨y, hy, e⟩ := hbx hx; rw [<- e]; exact h.bF b y hy
  lentR := h.lentR, lentB := h.lentB }
theorem Rep.less {φ : Fix} {ρ : Env} {st st' : St} {a : Act} {w : World} (h : Rep φ ρ st a w) (ho : ∀ d, ρ.on d -> ∃ r, qL d st'.rows = some r) (hs : ∀ s v, qL s st'.slots = some v -> qL s st.slots = some v)
  (hr : ∀ d r, qL d st'.rows = some r -> qL d st.rows = some r) (hb : ∀ b x, qL b st'.boxes = some x -> qL b st.boxes = some x)
  (hl : ∀ d, d ∈ st'.lentR -> d ∈ st.lentR) (hl' : ∀ d, d ∈ st'.lentB -> d ∈ st.lentB) : Rep φ ρ st' a w :=
 { h with
  on := ho, slots := fun s v hv => h.slots s v (hs s v hv), rows := fun d r hd => h.rows d r (hr d r hd), boxes := fun b x hx => h.boxes b x (hb b x hx)
  rsep := fun d d' r r' h1 h2 => h.rsep d d' r r' (hr _ _ h1) (hr _ _ h2), rF := fun d r h1 => h.rF d r (hr _ _ h1)
  rb := fun d r b x h1 h2 => h.rb d r b x (hr _ _ h1) (hb _ _ h2), bsep := fun b b' x x' h1 h2 => h.bsep b b' x x' (hb _ _ h1) (hb _ _ h2)
  bF := fun b x h1 => h.bF b x (hb _ _ h1), lentR := fun d hd => h.lentR d (hl d hd), lentB := fun d hd => h.lentB d (hl' d hd) }
def Env.setRow (ρ : Env) (d : Nat) (v : Value) (t : Ty) (B : Nat -> Prop) : Env :=
 { ρ with on := fun i => i = d \/ ρ.on i, val := fun i => if i = d then v else ρ.val i, ty := fun i => if i = d then t else ρ.ty i, ft := fun i => if i = d then B else ρ.ft i }
def Env.setBlk (ρ : Env) (b k : Nat) : Env := { ρ with blk := fun i => if i = b then k else ρ.blk i }
def Env.addF (ρ : Env) (G : Nat -> Prop) : Env := { ρ with F := fun y => ρ.F y \/ G y }
theorem wV {d : Nat} {c : CV} (h : c.says (CV.nested d) = true) : c.says (CV.speaks d) = true := by
 have one : ∀ x : CV, CV.nested d x = true -> CV.speaks d x = true := by intro x hx; cases x <;> simp_all [CV.nested, CV.speaks]
 unfold CV.says at h ⊢
 simp only [Bool.or_eq_true] at h ⊢
 rcases h with h | h
 ·exact .inl (one _ h)
 ·cases c <;> simp_all
  obtain ⟨x, hx, h'⟩ := h
  exact .inr ⟨x, hx, one x h'⟩
def Env.off (ρ : Env) (d : Nat) : Env := { ρ with on := fun e => e ≠ d /\ ρ.on e }
theorem Rep.dropRow {φ : Fix} {ρ : Env} {st : St} {a : Act} {w : World} (h : Rep φ ρ st a w) (d : Nat) : Rep φ (ρ.off d) (st.dropRow d) a w := by
 have m : ∀ c : CV, c.says (CV.speaks d) = false -> jM ρ (ρ.off d) w w c := fun c hc =>
  ⟨fun _ h => h, qC.refl _ _, fun _ _ => ⟨rfl, rfl⟩, fun e he ho => ⟨⟨(by rintro rfl; rw [wV he] at hc; cases hc), ho⟩, fun _ _ _ _ _ => qC.refl _ _⟩, fun _ _ => rfl⟩
 have hbx : ∀ {b x}, qL b (st.kill (CV.speaks d)).boxes = some x -> ∃ y, qL b st.boxes = some y /\ y.ro = x.ro := fun hx => by
  obtain ⟨y, hy, e⟩ := qK hx; exact ⟨y, hy, by rw [e]⟩
 have hr : ∀ {e r}, qL e (st.dropRow d).rows = some r -> e ≠ d /\ qL e st.rows = some r := fun {e r} hr => by
  simp only [St.dropRow, wL] at hr
  split at hr
  ·cases hr
  ·rename_i hn; exact ⟨hn, hr⟩
 exact {
  size := h.size, nodef := h.nodef
  on := fun e he => by
   obtain ⟨r, hr⟩ := h.on e he.2
   exact ⟨r, by simp only [St.dropRow, wL, if_neg he.1]; exact hr⟩
  slots := h.slots_kill m
  rows := fun e r he => h.rows e r (hr he).2
  boxes := h.boxes_kill m fun _ _ _ => ⟨rfl, rfl⟩
  rsep := fun e e' r r' h1 h2 => h.rsep e e' r r' (hr h1).2 (hr h2).2
  rF := fun e r h1 => h.rF e r (hr h1).2
  rb := fun e r b x h1 h2 => by obtain ⟨y, hy, _⟩ := hbx h2; exact h.rb e r b y (hr h1).2 hy
  bsep := fun b b' x x' hx hx' hn => by obtain ⟨y, hy, _⟩ := hbx hx; obtain ⟨y', hy', _⟩ := hbx hx'; exact h.bsep b b' y y' hy hy' hn
  bF := fun b x hx => by obtain ⟨y, hy, e⟩ := hbx hx; rw [<- e]; exact h.bF b y hy
  Fbd := h.Fbd, F0 := h.F0, grow := h.grow, io := h.io, tab := h.tab, keep := h.keep
  lentR := fun e he => h.lentR e (List.mem_filter.1 he).1
  lentB := h.lentB }
theorem jM.setRow {ρ : Env} {w w' : World} {d : Nat} {v : Value} {t : Ty} {B : Nat -> Prop} (g : ∀ S, qC S w w') {c : CV} (hc : c.says (CV.speaks d) = false) :
  jM ρ (ρ.setRow d v t B) w w' c :=
 ⟨fun _ h => h, g _, fun e he => by
  have : e ≠ d := by rintro rfl; rw [hc] at he; cases he
  simp [Env.setRow, this], fun _ _ ho => ⟨.inr ho, fun _ _ _ _ _ => g _⟩, fun _ _ => rfl⟩
theorem Rep.addRowD {φ : Fix} {ρ : Env} {st : St} {a : Act} {w w' : World} (h : Rep φ ρ st a w) (g : jO w w') {d : Nat} {r : Row} {v : Value} {B : Nat -> Prop}
  (hr : zJ ρ.F w' r B v) (hL : r.l ≠ [] -> ∃ b n c, xP v b n c) (hB : ∀ y, B y -> ¬ ρ.F y /\ y < w'.heap.size /\ φ.mine y)
  (hs : ∀ e r', e ≠ d -> qL e st.rows = some r' -> ∀ y, ρ.ft e y -> ¬ B y) (hb : ∀ b x, qL b st.boxes = some x -> ¬ B (ρ.blk b)) :
  Rep φ (ρ.setRow d v r.t B) (st.addRow d r) a w' := by
 have hg := h.grows g
 have m : ∀ c : CV, c.says (CV.speaks d) = false -> jM ρ (ρ.setRow d v r.t B) w' w' c := fun c hc => jM.setRow (fun S => qC.refl S w') hc
 have hbx : ∀ {b x}, qL b (st.kill (CV.speaks d)).boxes = some x -> ∃ y, qL b st.boxes = some y /\ y.ro = x.ro := fun hx => by
  obtain ⟨y, hy, e⟩ := qK hx; exact ⟨y, hy, by rw [e]⟩
 exact {
  size := h.size, nodef := h.nodef
  on := fun e he => by
   simp only [St.addRow, qP]
   by_cases hd : e = d
   ·exact ⟨r, by rw [if_pos hd]⟩
   ·rw [if_neg hd]; exact h.on e (he.resolve_left hd)
  slots := hg.slots_kill m
  rows := fun e r' he => by
   simp only [St.addRow, qP] at he
   by_cases hd : e = d
   ·rw [if_pos hd] at he
    simp only [Option.some.injEq] at he
    subst he; subst hd
    exact ⟨trivial, by simp [Env.setRow], by simpa [Env.setRow] using hr, by simpa [Env.setRow] using hL⟩
   ·rw [if_neg hd] at he
    obtain ⟨g1, g2, g3, g4⟩ := hg.rows e r' he
    exact ⟨g1, by simp only [Env.setRow, if_neg hd]; exact g2, by simp only [Env.setRow, if_neg hd]; exact g3, by simp only [Env.setRow, if_neg hd]; exact g4⟩
  boxes := hg.boxes_kill m fun _ _ _ => ⟨rfl, rfl⟩
  rsep := fun e e' r1 r2 h1 h2 hn y hy hy' => by
   simp only [St.addRow, qP] at h1 h2
   simp only [Env.setRow] at hy hy'
   by_cases he : e = d
   ·rw [if_pos he] at hy
    have he' : e' ≠ d := fun h => hn (he.trans h.symm)
    rw [if_neg he'] at hy' h2
    exact hs e' r2 he' h2 y hy' hy
   ·rw [if_neg he] at hy h1
    by_cases he' : e' = d
    ·rw [if_pos he'] at hy'; exact hs e r1 he h1 y hy hy'
    ·rw [if_neg he'] at hy' h2; exact h.rsep e e' r1 r2 h1 h2 hn y hy hy'
  rF := fun e r1 h1 y hy => by
   simp only [St.addRow, qP] at h1
   simp only [Env.setRow] at hy ⊢
   by_cases he : e = d
   ·rw [if_pos he] at hy; exact hB y hy
   ·rw [if_neg he] at hy h1; exact hg.rF e r1 h1 y hy
  rb := fun e r1 b x h1 h2 => by
   simp only [St.addRow, qP] at h1
   obtain ⟨y, hy, _⟩ := hbx h2
   simp only [Env.setRow]
   by_cases he : e = d
   ·rw [if_pos he]; exact hb b y hy
   ·rw [if_neg he] at h1 ⊢; exact h.rb e r1 b y h1 hy
  bsep := fun b b' x x' hx hx' hn => by obtain ⟨y, hy, _⟩ := hbx hx; obtain ⟨y', hy', _⟩ := hbx hx'; exact h.bsep b b' y y' hy hy' hn
  bF := fun b x hx => by obtain ⟨y, hy, e⟩ := hbx hx; rw [<- e]; exact h.bF b y hy
  Fbd := hg.Fbd, F0 := h.F0, grow := hg.grow, io := hg.io, tab := h.tab, keep := hg.keep
  lentR := fun e he => by
   have h1 := List.mem_filter.1 he
   have : e ≠ d := by rintro rfl; simp at h1
   simp only [Env.setRow, if_neg this]
   exact h.lentR e h1.1
  lentB := h.lentB }
theorem Rep.addRow {φ : Fix} {ρ : Env} {st : St} {a : Act} {w w' : World} (h : Rep φ ρ st a w) (g : jO w w') {d : Nat} {r : Row} {v : Value} {B : Nat -> Prop}
  (h0 : r.hole = none) (hr : qJ ρ.F w' (.sl r.e r.t) r.m r.l B [v]) (hL : r.l ≠ [] -> ∃ b n c, xP v b n c) (hB : ∀ y, B y -> ¬ ρ.F y /\ y < w'.heap.size /\ φ.mine y)
  (hs : ∀ e r', e ≠ d -> qL e st.rows = some r' -> ∀ y, ρ.ft e y -> ¬ B y) (hb : ∀ b x, qL b st.boxes = some x -> ¬ B (ρ.blk b)) :
  Rep φ (ρ.setRow d v r.t B) (st.addRow d r) a w' := h.addRowD g (zJ.mk h0 hr) hL hB hs hb
theorem vD {F : Nat -> Prop} {w : World} {e : TypeId} {t : Ty} {n : Nat} {l : List t.T} {B : Nat -> Prop} {v : Value} (h : qJ F w (.sl e t) n l B [v]) (hn : n ≠ 0) : l ≠ [] -> ∃ b n c, xP v b n c := by
 intro hl
 cases n with
 | zero => exact absurd rfl hn
 | succ n =>
  rw [qJ] at h
  obtain ⟨v', e1, a, c, hv, ⟨h0, _⟩ | ⟨b, _, _, h1, _⟩⟩ := h
  ·exact absurd h0 hl
  ·simp only [List.cons.injEq, and_true] at e1
   exact ⟨b, l.length, c, by rw [e1, hv, h1]; rfl⟩
theorem qD9 {ρ : Env} {w : World} {d : Nat} {r : Row} {b n k : Nat} (h : qPO ρ w d r) (hl : xP (ρ.val d) b n k) (hn : 0 < n) :
  (r.m = 0 /\ ρ.F b) \/ (r.m ≠ 0 /\ ρ.ft d b) := by
 obtain ⟨_, _, ho, _⟩ := h
 cases hh : r.hole with
 | some q =>
  unfold zJ at ho
  rw [hh] at ho
  rcases ho with ⟨_, _, b0, _, _, e0, _⟩ | ⟨_, M, e, b', c, arr, fr, e1, _, _, _, _, h6, _⟩ | ⟨_, M, e, A, c, e1, _, e2 | ⟨b', arr, fr, e2, _, _, _, h6, _⟩⟩
  ·rw [hl] at e0; cases e0
  ·rw [hl] at e1
   simp only [Value.slice.injEq, Option.some.injEq, Addr.mk.injEq] at e1
   exact .inr ⟨by omega, e1.1.1 ▸ h6⟩
  ·rw [hl] at e1
   simp only [Value.slice.injEq] at e1
   rw [e2] at e1
   have := e1.2.1
   simp at this; omega
  ·rw [hl] at e1
   simp only [Value.slice.injEq] at e1
   rw [e2] at e1
   simp only [Option.some.injEq, Addr.mk.injEq] at e1
   exact .inr ⟨by omega, e1.1.1 ▸ h6⟩
 | none =>
 have ho := zJ.whole hh ho
 revert ho
 cases hm : r.m with
 | zero =>
  intro ho
  rw [qJ, kB] at ho
  obtain ⟨v, e1, a, c, hv, _, hh⟩ := ho
  simp only [List.cons.injEq, and_true] at e1
  rw [<- e1, hl] at hv
  simp only [Value.slice.injEq] at hv
  obtain ⟨e2, e3, _⟩ := hv
  obtain ⟨b', off, cs, e4, h1, _⟩ := hh 0 (by omega)
  rw [e4] at e2
  simp only [Option.some.injEq, Addr.mk.injEq] at e2
  exact .inl ⟨rfl, e2.1 ▸ h1⟩
 | succ m =>
  intro ho
  rw [qJ] at ho
  obtain ⟨v, e1, a, c, hv, hh | ⟨b', arr, fr, e4, _, _, _, _, h6, _⟩⟩ := ho
  ·simp only [List.cons.injEq, and_true] at e1
   rw [<- e1, hl] at hv
   simp only [Value.slice.injEq] at hv
   obtain ⟨_, e3, _⟩ := hv
   rw [hh.1] at e3
   simp at e3; omega
  ·simp only [List.cons.injEq, and_true] at e1
   rw [<- e1, hl] at hv
   simp only [Value.slice.injEq] at hv
   obtain ⟨e2, e3, _⟩ := hv
   rw [e4] at e2
   simp only [Option.some.injEq, Addr.mk.injEq] at e2
   exact .inr ⟨by omega, e2.1 ▸ h6⟩
theorem Rep.putRowD {φ : Fix} {ρ : Env} {st : St} {a : Act} {w w' : World} (h : Rep φ ρ st a w) {d : Nat} {r r' : Row} {B : Nat -> Prop} (hd : qL d st.rows = some r)
  (hg : w.heap.size <= w'.heap.size) (hio : zD w w') (hk : ∀ b, b < w.heap.size -> ¬ ρ.ft d b -> w'.heap[b]? = w.heap[b]?) (ht : r'.t = r.t)
  (hr : zJ ρ.F w' r' B (ρ.val d)) (hL : r'.l ≠ [] -> ∃ b n c, xP (ρ.val d) b n c) (hB : ∀ y, B y -> ρ.ft d y \/ (w.heap.size <= y /\ y < w'.heap.size)) :
  Rep φ (ρ.setRow d (ρ.val d) r.t B) { st.kill (CV.nested d) with rows := put d r' st.rows } a w' := by
 have agree : ∀ S : Nat -> Prop, (∀ y, S y -> ¬ ρ.ft d y) -> qC S w w' := fun S hS b o hb ho => by
  have : b < w.heap.size := by
   rcases Nat.lt_or_ge b w.heap.size with h' | h'
   ·exact h'
   ·simp [Array.getElem?_eq_none h'] at ho
  rw [hk b this (hS b hb)]; exact ho
 have hF : qC ρ.F w w' := agree _ fun y hy hf => (h.rF d r hd y hf).1 hy
 have same : ∀ e, (ρ.setRow d (ρ.val d) r.t B).val e = ρ.val e /\ (ρ.setRow d (ρ.val d) r.t B).ty e = ρ.ty e := fun e => by
  simp only [Env.setRow]
  constructor
  ·split
   ·rename_i he; rw [he]
   ·rfl
  ·split
   ·rename_i he; rw [he, (h.rows d r hd).2.1]
   ·rfl
 have top : ∀ e re, qL e st.rows = some re -> e ≠ d -> ∀ y, ρ.ft e y -> ¬ ρ.ft d y := fun e re he hn y hy => h.rsep e d re r he hd hn y hy
 have m : ∀ c : CV, c.says (CV.nested d) = false -> jM ρ (ρ.setRow d (ρ.val d) r.t B) w w' c :=
  fun c hc => ⟨fun _ h => h, hF, fun e _ => same e, fun e he ho => ⟨.inr ho, fun b n k hn hl => by
   obtain ⟨re, hre⟩ := h.on e ho
   have hne : e ≠ d := by rintro rfl; rw [hc] at he; cases he
   refine agree _ fun y hy => ?_
   subst hy
   rcases qD9 (h.rows e re hre) hl hn with ⟨_, hf⟩ | ⟨_, hf⟩
   ·exact fun hf' => (h.rF d r hd _ hf').1 hf
   ·exact top e re hre hne _ hf⟩, fun _ _ => rfl⟩
 have hbx : ∀ {b x}, qL b (st.kill (CV.nested d)).boxes = some x -> ∃ y, qL b st.boxes = some y /\ y.ro = x.ro := fun hx => by
  obtain ⟨y, hy, e⟩ := qK hx; exact ⟨y, hy, by rw [e]⟩
 have hlt : ∀ b x, qL b st.boxes = some x -> ρ.blk b < w.heap.size := fun b x hx => by
  obtain ⟨arr, fr, h1, _⟩ := h.boxes b x hx
  exact h1.lt
 have hlk : ∀ {e re}, qL e (put d r' st.rows) = some re -> (e = d /\ re = r') \/ (e ≠ d /\ qL e st.rows = some re) := fun {e re} he => by
  rw [qP] at he
  by_cases hh : e = d
  ·rw [if_pos hh] at he; simp only [Option.some.injEq] at he; exact .inl ⟨hh, he.symm⟩
  ·rw [if_neg hh] at he; exact .inr ⟨hh, he⟩
 have ftB : ∀ e re, qL e (put d r' st.rows) = some re -> ∀ y, (ρ.setRow d (ρ.val d) r.t B).ft e y -> ρ.ft e y \/ (e = d /\ w.heap.size <= y /\ y < w'.heap.size) := fun e re he y hy => by
  simp only [Env.setRow] at hy
  by_cases hh : e = d
  ·rw [if_pos hh] at hy; subst hh; exact (hB y hy).imp id fun h => ⟨rfl, h⟩
  ·rw [if_neg hh] at hy; exact .inl hy
 have old : ∀ e re, qL e (put d r' st.rows) = some re -> ∃ re', qL e st.rows = some re' := fun e re he => by
  rcases hlk he with ⟨rfl, _⟩ | ⟨_, he⟩
  ·exact ⟨r, hd⟩
  ·exact ⟨re, he⟩
 exact {
  size := h.size, nodef := h.nodef
  on := fun e he => by
   show ∃ r, qL e (put d r' st.rows) = some r
   rw [qP]
   by_cases hh : e = d
   ·exact ⟨r', by rw [if_pos hh]⟩
   ·rw [if_neg hh]; exact h.on e (he.resolve_left hh)
  slots := h.slots_kill m
  rows := fun e re he => by
   rcases hlk he with ⟨rfl, rfl⟩ | ⟨hne, he⟩
   ·exact ⟨trivial, by simp [Env.setRow, ht], by simpa [Env.setRow] using hr, by simpa [Env.setRow] using hL⟩
   ·obtain ⟨g1, g2, g3, g4⟩ := h.rows e re he
    refine ⟨g1, by simp only [Env.setRow, if_neg hne]; exact g2, ?_, by simp only [Env.setRow, if_neg hne]; exact g4⟩
    simp only [Env.setRow, if_neg hne]
    exact vO (fun _ h => h) hF (agree _ fun y hy => top e re he hne y hy) g3
  boxes := h.boxes_kill m fun b x hx => ⟨rfl, hk _ (hlt b x hx) (h.rb d r b x hd hx)⟩
  rsep := fun e e' r1 r2 h1 h2 hn y hy hy' => by
   obtain ⟨q1, g1⟩ := old e r1 h1
   obtain ⟨q2, g2⟩ := old e' r2 h2
   rcases ftB e r1 h1 y hy with p1 | ⟨p1, p2, _⟩ <;> rcases ftB e' r2 h2 y hy' with p3 | ⟨p3, p4, _⟩
   ·exact h.rsep e e' q1 q2 g1 g2 hn y p1 p3
   ·have := (h.rF e q1 g1 y p1).2.1; omega
   ·have := (h.rF e' q2 g2 y p3).2.1; omega
   ·exact hn (p1.trans p3.symm)
  rF := fun e r1 h1 y hy => by
   obtain ⟨q1, g1⟩ := old e r1 h1
   rcases ftB e r1 h1 y hy with hy | ⟨rfl, hy, hy'⟩
   ·obtain ⟨p1, p2, p3⟩ := h.rF e q1 g1 y hy; exact ⟨p1, by omega, p3⟩
   ·exact ⟨fun hf => by have := (h.Fbd y hf).1; omega, hy', .inr (Nat.le_trans h.grow hy)⟩
  rb := fun e r1 b x h1 h2 hf => by
   obtain ⟨q1, g1⟩ := old e r1 h1
   obtain ⟨y, hy, _⟩ := hbx h2
   rcases ftB e r1 h1 _ hf with hf | ⟨rfl, hy', _⟩
   ·exact h.rb e q1 b y g1 hy hf
   ·have := hlt b y hy
    have e1 : (ρ.setRow e (ρ.val e) r.t B).blk b = ρ.blk b := rfl
    omega
  bsep := fun b b' x x' hx hx' hn => by obtain ⟨y, hy, _⟩ := hbx hx; obtain ⟨y', hy', _⟩ := hbx hx'; exact h.bsep b b' y y' hy hy' hn
  bF := fun b x hx => by obtain ⟨y, hy, e⟩ := hbx hx; rw [<- e]; exact h.bF b y hy
  Fbd := fun y hy => ⟨Nat.lt_of_lt_of_le (h.Fbd y hy).1 hg, (h.Fbd y hy).2⟩
  F0 := h.F0
  grow := Nat.le_trans h.grow hg
  io := h.io.trans hio
  tab := h.tab
  keep := fun b hb hn => by
   have hf : ¬ ρ.ft d b := fun hf => by
    rcases (h.rF d r hd b hf).2.2 with h' | h'
    ·exact hn h'
    ·omega
   rw [hk b (Nat.lt_of_lt_of_le hb h.grow) hf]; exact h.keep b hb hn
  lentR := fun e he => by
   simp only [Env.setRow]
   split
   ·rename_i hh; subst hh; exact h.lentR _ he
   ·exact h.lentR e he
  lentB := h.lentB }
theorem Rep.putRow {φ : Fix} {ρ : Env} {st : St} {a : Act} {w w' : World} (h : Rep φ ρ st a w) {d : Nat} {r r' : Row} {B : Nat -> Prop} (hd : qL d st.rows = some r)
  (hg : w.heap.size <= w'.heap.size) (hio : zD w w') (hk : ∀ b, b < w.heap.size -> ¬ ρ.ft d b -> w'.heap[b]? = w.heap[b]?) (ht : r'.t = r.t) (h0 : r'.hole = none)
  (hr : qJ ρ.F w' (.sl r'.e r'.t) r'.m r'.l B [ρ.val d]) (hL : r'.l ≠ [] -> ∃ b n c, xP (ρ.val d) b n c) (hB : ∀ y, B y -> ρ.ft d y \/ (w.heap.size <= y /\ y < w'.heap.size)) :
  Rep φ (ρ.setRow d (ρ.val d) r.t B) { st.kill (CV.nested d) with rows := put d r' st.rows } a w' := h.putRowD hd hg hio hk ht (zJ.mk h0 hr) hL hB
theorem qF5 {ρ : Env} {w : World} {c : CV} {v : Value} (h : CVR ρ w c v) : DC ρ.F w c v := by
 cases c <;> first | trivial | exact h
structure Env.Le (ρ ρ' : Env) : Prop where
 F : ∀ y, ρ.F y -> ρ'.F y
 on : ∀ d, ρ.on d -> ρ'.on d
 val : ρ'.val = ρ.val
 ty : ρ'.ty = ρ.ty
 blk : ρ'.blk = ρ.blk
theorem Env.Le.refl (ρ : Env) : ρ.Le ρ := ⟨fun _ h => h, fun _ h => h, rfl, rfl, rfl⟩
theorem Env.Le.trans {ρ ρ' ρ'' : Env} (h : ρ.Le ρ') (h' : ρ'.Le ρ'') : ρ.Le ρ'' :=
 ⟨fun y hy => h'.F y (h.F y hy), fun d hd => h'.on d (h.on d hd), h'.val.trans h.val, h'.ty.trans h.ty, h'.blk.trans h.blk⟩
theorem Env.Le.moves {ρ ρ' : Env} {w w' : World} (h : ρ.Le ρ') (g : ∀ S, qC S w w') (c : CV) : jM ρ ρ' w w' c :=
 ⟨h.F, g _, fun d _ => ⟨by rw [h.val], by rw [h.ty]⟩, fun d _ ho => ⟨h.on d ho, fun _ _ _ _ _ => g _⟩, fun b _ => by rw [h.blk]⟩
theorem qBo {ρ ρ' : Env} {w : World} {c : CV} {v : Value} (h : ρ.Le ρ') (hc : CVR ρ w c v) : CVR ρ' w c v := jP (h.moves (fun S => qC.refl S w) c) hc
theorem qDT {ρ ρ' : Env} {w : World} {s : SV} {v : Value} (h : ρ.Le ρ') (hc : SVR ρ w s v) : SVR ρ' w s v := kF (fun c _ => h.moves (fun S => qC.refl S w) c) hc
def Env.withF (ρ : Env) (G : Nat -> Prop) : Env := { ρ with F := G }
theorem Env.withF_le {ρ : Env} {G : Nat -> Prop} (h : ∀ y, ρ.F y -> G y) : ρ.Le (ρ.withF G) := ⟨h, fun _ h => h, rfl, rfl, rfl⟩
def Top (v : Value) (y : Nat) : Prop := ∃ n c, xP v y n c
def xO (ρ : Env) (ds : List (Nat × Nat)) (bs : List Nat) : Nat -> Prop := fun y => ρ.F y \/ (∃ p, p ∈ ds /\ ρ.ft p.1 y /\ (p.2 = 0 \/ ¬ Top (ρ.val p.1) y)) \/ ∃ b, b ∈ bs /\ ρ.blk b = y
theorem qAW {ρ : Env} {ds ds' : List (Nat × Nat)} {bs bs' : List Nat} (h : ∀ p, p ∈ ds -> p ∈ ds') (h' : ∀ b, b ∈ bs -> b ∈ bs') (y : Nat) (hy : xO ρ ds bs y) : xO ρ ds' bs' y :=
 hy.imp id fun hy => hy.imp (fun ⟨p, hp, hf⟩ => ⟨p, h p hp, hf⟩) fun ⟨b, hb, hf⟩ => ⟨b, h' b hb, hf⟩
theorem qI7 {ρ : Env} {ds : List (Nat × Nat)} {bs : List Nat} (y : Nat) (hy : ρ.F y) : xO ρ ds bs y := .inl hy
theorem qAX {ρ : Env} {ds ds' : List (Nat × Nat)} {bs bs' : List Nat} (y : Nat) (hy : xO ρ ds bs y) : xO ρ (ds ++ ds') (bs ++ bs') y :=
 qAW (fun p hp => List.mem_append_left _ hp) (fun b hb => List.mem_append_left _ hb) y hy
theorem kM {ρ : Env} {ds ds' : List (Nat × Nat)} {bs bs' : List Nat} (y : Nat) (hy : xO ρ ds' bs' y) : xO ρ (ds ++ ds') (bs ++ bs') y :=
 qAW (fun p hp => List.mem_append_right _ hp) (fun b hb => List.mem_append_right _ hb) y hy
theorem qM {st : St} {d : Nat} {r : Row} (h : st.row? d = some r) : qL d st.rows = some r := by
 unfold St.row? at h
 split at h
 ·rename_i r' hr
  split at h
  ·simp only [Option.some.injEq] at h; subst h; exact hr
  ·cases h
 ·cases h
theorem qN {st : St} {d : Nat} {r : Row} (h : st.row? d = some r) : r.hole = none := by
 unfold St.row? at h
 split at h
 ·split at h
  ·rename_i hh; simp only [Option.some.injEq] at h; subst h; exact hh
  ·cases h
 ·cases h
theorem Row.notMap {r : Row} (h : r.hole = none) : r.isMap = false := by unfold Row.isMap; rw [h]
theorem qCf {st : St} {d : Nat} {r : Row} (h : st.row? d = some r) : r.isMap = false := Row.notMap (qN h)
theorem zY {st : St} {d : Nat} {r : Row} (h : st.rowM? d = some r) : qL d st.rows = some r /\ (r.hole = none \/ r.isMap = true) := by
 unfold St.rowM? at h
 split at h
 ·rename_i x hx
  split at h
  ·rename_i hc
   simp only [Option.some.injEq] at h; subst h
   rw [Bool.or_eq_true] at hc
   exact ⟨hx, hc.imp (fun h => by simpa using h) id⟩
  ·cases h
 ·cases h
theorem Rep.rowRd {φ : Fix} {ρ : Env} {st : St} {a : Act} {w : World} (h : Rep φ ρ st a w) {d : Nat} {r : Row} (hd : qL d st.rows = some r) (h0 : r.hole = none) :
  qDd (fun y => ρ.F y \/ ρ.ft d y) w r.t r.l (ρ.val d) := by
 have := qAb (zJ.whole h0 (h.rows d r hd).2.2.1)
 rw [kB] at this
 obtain ⟨v, e, g⟩ := this
 simp only [List.cons.injEq, and_true] at e
 rw [e]; exact g
theorem qP3 {F : Nat -> Prop} {w : World} {t : Ty} {l : List t.T} {v : Value} (h : qDd F w t l v) : ∃ a c, v = .slice a l.length c := by
 obtain ⟨a, c, e, _⟩ := h; exact ⟨a, c, e⟩
theorem wQ {t : Ty} {l : List t.T} {i : Nat} (h : i < l.length) : nth t l i = l[i] := by
 simp [nth, h]
theorem qDc {F : Nat -> Prop} {w : World} {t : Ty} {l : List t.T} {a b : Option Addr} {n c lo hi : Nat} (h : qDd F w t l (.slice a n c)) (h1 : lo <= hi) (h2 : hi <= l.length)
  (hb : lo < c -> b = a.map (·.add (lo * t.sz))) : qDd F w t ((l.take hi).drop lo) (.slice b (hi - lo) (c - lo)) := by
 obtain ⟨a', c', e, g0, g⟩ := h
 simp only [Value.slice.injEq] at e
 obtain ⟨rfl, rfl, rfl⟩ := e
 have hl : ((l.take hi).drop lo).length = hi - lo := by simp; omega
 refine ⟨_, _, by rw [hl], by rw [hl]; omega, fun i hi' => ?_⟩
 rw [hl] at hi'
 obtain ⟨b', off, cs, e1, g1, g2, g3⟩ := g (lo + i) (by omega)
 have hel : ((l.take hi).drop lo)[i]'(by rw [hl]; exact hi') = l[lo + i]'(by omega) := by simp
 rw [hel]
 ·refine ⟨b', off + lo * t.sz, cs, ?_, g1, ?_, g3⟩
  ·rw [hb (by omega), e1]
   simp only [Option.map_some, Addr.add]
   split
   ·rename_i h0; rw [h0]; rfl
   ·rfl
  ·have : off + lo * t.sz + i * t.sz = off + (lo + i) * t.sz := by rw [Nat.add_mul]; omega
   rw [this]; exact g2
theorem qNH {st : St} {d : Nat} {r : Row} (h : qL d st.rows = some r) (h0 : r.hole = none) : st.row? d = some r := by
 simp [St.row?, h, h0]
theorem Rep.rowRd1 {φ : Fix} {ρ : Env} {st : St} {a : Act} {w : World} (h : Rep φ ρ st a w) {d : Nat} {r : Row} (hd : qL d st.rows = some r) (h0 : r.hole = none) {b n c i : Nat}
  (hl : xP (ρ.val d) b n c) (hi : i < n) : ∃ hi' : i < r.l.length, ∃ cs, qV w b (i * r.t.sz) cs /\ (ρ.F b \/ ρ.ft d b) /\ Rd (fun y => ρ.F y \/ (ρ.ft d y /\ ¬ Top (ρ.val d) y)) w r.t r.l[i] cs := by
 have ho := zJ.whole h0 (h.rows d r hd).2.2.1
 revert ho
 cases r.m with
 | zero =>
  intro ho
  rw [qJ, kB] at ho
  obtain ⟨v, e1, a', c', e2, hc, g⟩ := ho
  simp only [List.cons.injEq, and_true] at e1
  rw [<- e1, hl] at e2
  simp only [Value.slice.injEq] at e2
  obtain ⟨rfl, rfl, rfl⟩ := e2
  obtain ⟨b', off, cs, e3, g1, g2, g3⟩ := g i hi
  simp only [Option.some.injEq, Addr.mk.injEq] at e3
  obtain ⟨rfl, rfl, _⟩ := e3
  exact ⟨hi, cs, by simpa using g2, .inl g1, zK (fun _ h => .inl h) (qC.refl _ _) g3⟩
 | succ m =>
  intro ho
  rw [qJ] at ho
  obtain ⟨v, e1, a', c', e2, hh⟩ := ho
  simp only [List.cons.injEq, and_true] at e1
  rw [<- e1, hl] at e2
  simp only [Value.slice.injEq] at e2
  obtain ⟨rfl, rfl, rfl⟩ := e2
  rcases hh with ⟨h0, _⟩ | ⟨b', arr, fr, e3, g1, g2, g3, g4, g5, Bs, g6, g7, g8⟩
  ·rw [h0] at hi; simp at hi
  ·simp only [Option.some.injEq, Addr.mk.injEq] at e3
   obtain ⟨rfl, _⟩ := e3
   obtain ⟨cs, k1, k2⟩ := g8 i hi
   refine ⟨hi, cs, k1, .inr g5, zK (fun y hy => hy.imp id fun hy => ?_) (qC.refl _ _) (qAb k2)⟩
   obtain ⟨p1, p2⟩ := g6 i y hi hy
   refine ⟨p1, fun ⟨n', c', ht⟩ => p2 ?_⟩
   rw [hl] at ht
   simp only [xP, Value.slice.injEq, Option.some.injEq, Addr.mk.injEq] at ht
   exact ht.1.1.symm
def qEa : CV -> List (Nat × Nat)
 | .own d | .vw d _ _ => [(d, 0)]
 | .nref d _ _ => [(d, 1)]
 | _ => []
theorem wW {φ : Fix} {ρ : Env} {st : St} {a : Act} {w : World} (h : Rep φ ρ st a w) {c : CV} {v : Value} {s : (e : TypeId) × (t : Ty) × List t.T} (hs : xL st c = some s) (hc : zQ ρ w c v) :
  qDd (xO ρ (qEa c) []) w s.2.1 s.2.2 v := by
 cases c with
 | dat e t l =>
  simp only [xL, Option.some.injEq] at hs; subst hs
  exact vX qI7 (qC.refl _ _) hc
 | emp e t =>
  simp only [xL, Option.some.injEq] at hs; subst hs
  obtain ⟨a, rfl⟩ := hc
  exact ⟨a, 0, rfl, Nat.le_refl _, fun i hi => by simp at hi⟩
 | own d =>
  simp only [xL] at hs
  split at hs
  ·rename_i r hr
   simp only [Option.some.injEq] at hs; subst hs
   rw [show v = ρ.val d from hc.1]
   exact vX (fun y hy => hy.imp id fun hy => .inl ⟨(d, 0), by simp [qEa], hy, .inl rfl⟩) (qC.refl _ _) (h.rowRd (qM hr) (qN hr))
  ·cases hs
 | vw d lo hi =>
  simp only [xL] at hs
  split at hs
  ·rename_i r hr
   simp only [Option.some.injEq] at hs; subst hs
   obtain ⟨a', n, c', b', e1, h1, h2, _, e2, e2'⟩ := hc
   have hr' := h.rowRd (qM hr) (qN hr)
   rw [e1] at hr'
   obtain ⟨a2, c2, e3, _⟩ := id hr'
   simp only [Value.slice.injEq] at e3
   obtain ⟨_, rfl, _⟩ := e3
   have := qDc hr' h1 h2 (b := b') (by rw [(h.rows d r (qM hr)).2.1] at e2'; exact e2')
   rw [e2]
   exact vX (fun y hy => hy.imp id fun hy => .inl ⟨(d, 0), by simp [qEa], hy, .inl rfl⟩) (qC.refl _ _) this
  ·cases hs
 | nref d i off =>
  simp only [xL] at hs
  split at hs
  ·rename_i r hr
   obtain ⟨⟨_, b, n, c', e1, hi, e2⟩, _⟩ := hc
   obtain ⟨hi', cs, g1, g2, g3⟩ := h.rowRd1 (qM hr) (qN hr) e1 hi
   obtain ⟨e, u, l⟩ := s
   rw [wQ hi'] at hs
   obtain ⟨v', k1, k2⟩ := qI6 hs g3
   have hv : v' = v := by
    obtain ⟨hlt, k1⟩ := List.getElem?_eq_some_iff.1 k1
    have := g1 off hlt
    rw [(h.rows d r (qM hr)).2.1, this, k1] at e2
    simpa using e2
   subst hv
   exact vX (fun y hy => hy.imp id fun hy => .inl ⟨(d, 1), by simp [qEa], hy.1, .inr hy.2⟩) (qC.refl _ _) k2
  ·cases hs
 | _ => simp [xL] at hs
theorem zL {ρ : Env} {w : World} {c : CV} {v : Value} (h : zQ ρ w c v) : CVR ρ w c v := by
 cases c <;> first | exact h | exact h.elim
theorem qBO {ρ : Env} {w : World} {c : CV} {v : Value} (hn : ∀ f sh n cs, c ≠ .fn f sh n cs) (h : CVR ρ w c v) : zQ ρ w c v := by
 cases c <;> first | exact h | exact absurd rfl (hn _ _ _ _)
theorem qEe {ρ : Env} {f : CV -> Rd3 CV} {R : (Nat -> Prop) -> CV -> Value -> Prop} {S : CV -> Value -> Prop} (hR : ∀ (F G : Nat -> Prop) c v, (∀ y, F y -> G y) -> R F c v -> R G c v)
  (hf : ∀ c v c' ds bs, S c v -> f c = some (c', ds, bs) -> R (xO ρ ds bs) c' v) : ∀ {cs : List CV} {vs : List Value} {cs' : List CV} {ds : List (Nat × Nat)} {bs : List Nat},
  jC S cs vs -> qAq f cs = some (cs', ds, bs) -> jC (R (xO ρ ds bs)) cs' vs
 | [], [], cs', ds, bs, _, h => by simp only [qAq, Option.some.injEq, Prod.mk.injEq] at h; obtain ⟨rfl, _⟩ := h; trivial
 | c :: cs, v :: vs, cs', ds, bs, ha, h => by
  simp only [qAq] at h
  split at h
  ·rename_i y ds1 bs1 hy
   split at h
   ·rename_i ys ds2 bs2 hys
    simp only [Option.some.injEq, Prod.mk.injEq] at h
    obtain ⟨rfl, rfl, rfl⟩ := h
    exact ⟨hR _ _ _ _ qAX (hf _ _ _ _ _ ha.1 hy), (qEe hR hf ha.2 hys).imp fun _ _ => hR _ _ _ _ kM⟩
   ·cases h
  ·cases h
theorem qGo {ρ : Env} {f : CV -> Rd3 CV} {R : (Nat -> Prop) -> CV -> Value -> Prop} {S : CV -> Value -> Prop} (hR : ∀ (F G : Nat -> Prop) c v, (∀ y, F y -> G y) -> R F c v -> R G c v)
  (hf : ∀ c v c' ds bs, S c v -> f c = some (c', ds, bs) -> R (xO ρ ds bs) c' v) : ∀ {sh : List (Bool × Nat)} {cs : List CV} {vs : List Value} {cs' : List CV} {ds : List (Nat × Nat)} {bs : List Nat},
  Shaped S sh cs vs -> qAq f cs = some (cs', ds, bs) -> Shaped (R (xO ρ ds bs)) sh cs' vs := by
 have cut : ∀ (k : Nat) (cs cs' : List CV) (ds : List (Nat × Nat)) (bs : List Nat), qAq f cs = some (cs', ds, bs) -> ∃ ds1 bs1 ds2 bs2, qAq f (cs.take k) = some (cs'.take k, ds1, bs1) /\
   qAq f (cs.drop k) = some (cs'.drop k, ds2, bs2) /\ (∀ y, xO ρ ds1 bs1 y -> xO ρ ds bs y) /\ (∀ y, xO ρ ds2 bs2 y -> xO ρ ds bs y) /\ cs'.length = cs.length := by
  intro k
  induction k with
  | zero =>
   intro cs cs' ds bs h
   refine ⟨[], [], ds, bs, by simp [qAq], by simpa using h, fun y hy => ?_, fun y hy => hy, ?_⟩
   ·exact qAW (by simp) (by simp) y hy
   ·induction cs generalizing cs' ds bs with
    | nil => simp only [qAq, Option.some.injEq, Prod.mk.injEq] at h; obtain ⟨rfl, _⟩ := h; rfl
    | cons c cs ih =>
     simp only [qAq] at h
     split at h
     ·split at h
      ·rename_i ys ds2 bs2 hys
       simp only [Option.some.injEq, Prod.mk.injEq] at h
       obtain ⟨rfl, _⟩ := h
       simp [ih _ _ _ hys]
      ·cases h
     ·cases h
  | succ k ih =>
   intro cs cs' ds bs h
   cases cs with
   | nil =>
    simp only [qAq, Option.some.injEq, Prod.mk.injEq] at h
    obtain ⟨rfl, rfl, rfl⟩ := h
    exact ⟨[], [], [], [], rfl, rfl, fun y hy => hy, fun y hy => hy, rfl⟩
   | cons c cs =>
    simp only [qAq] at h
    split at h
    ·rename_i y ds1 bs1 hy
     split at h
     ·rename_i ys ds2 bs2 hys
      simp only [Option.some.injEq, Prod.mk.injEq] at h
      obtain ⟨rfl, rfl, rfl⟩ := h
      obtain ⟨p1, q1, p2, q2, e1, e2, m1, m2, hl⟩ := ih cs ys ds2 bs2 hys
      refine ⟨ds1 ++ p1, bs1 ++ q1, p2, q2, by simp [qAq, hy, e1], by simpa using e2, fun z hz => ?_, fun z hz => kM z (m2 z hz), by simp [hl]⟩
      rcases hz with hz | ⟨p, hp, hz⟩ | ⟨b, hb, hz⟩
      ·exact .inl hz
      ·rcases List.mem_append.1 hp with hp | hp
       ·exact .inr (.inl ⟨p, List.mem_append_left _ hp, hz⟩)
       ·exact kM z (m1 z (.inr (.inl ⟨p, hp, hz⟩)))
      ·rcases List.mem_append.1 hb with hb | hb
       ·exact .inr (.inr ⟨b, List.mem_append_left _ hb, hz⟩)
       ·exact kM z (m1 z (.inr (.inr ⟨b, hb, hz⟩)))
     ·cases h
    ·cases h
 intro sh
 induction sh with
 | nil =>
  intro cs vs cs' ds bs hs h
  obtain ⟨rfl, rfl⟩ := hs
  simp only [qAq, Option.some.injEq, Prod.mk.injEq] at h
  obtain ⟨rfl, _⟩ := h
  exact ⟨rfl, rfl⟩
 | cons s sh ih =>
  intro cs vs cs' ds bs hs h
  obtain ⟨g, k⟩ := s
  cases g with
  | true =>
   cases vs with
   | nil => exact hs.elim
   | cons v vs =>
    obtain ⟨arr, e, hk, h1, h2⟩ := hs
    obtain ⟨p1, q1, p2, q2, e1, e2, m1, m2, hl⟩ := cut k cs cs' ds bs h
    refine ⟨arr, e, by omega, (qEe hR hf h1 e1).imp fun _ _ => hR _ _ _ _ m1, ?_⟩
    refine Shaped.impMem (fun a b _ => hR _ _ _ _ m2) (ih h2 e2)
  | false =>
   cases cs with
   | nil => cases vs <;> exact hs.elim
   | cons c cs =>
    cases vs with
    | nil => exact hs.elim
    | cons v vs =>
     simp only [qAq] at h
     split at h
     ·rename_i y ds1 bs1 hy
      split at h
      ·rename_i ys ds2 bs2 hys
       simp only [Option.some.injEq, Prod.mk.injEq] at h
       obtain ⟨rfl, rfl, rfl⟩ := h
       exact ⟨hR _ _ _ _ qAX (hf _ _ _ _ _ hs.1 hy), Shaped.impMem (fun a b _ => hR _ _ _ _ kM) (ih hs.2 hys)⟩
      ·cases h
     ·cases h
theorem qE9 {φ : Fix} {ρ : Env} {st : St} {a : Act} {w : World} (h : Rep φ ρ st a w) : ∀ (n : Nat) {c : CV} {v : Value} {c' : CV} {ds : List (Nat × Nat)} {bs : List Nat},
  CVR ρ w c v -> rdC st n c = some (c', ds, bs) -> CVR (ρ.withF (xO ρ ds bs)) w c' v /\ ((∀ f sh n cs, c ≠ .fn f sh n cs) -> zQ (ρ.withF (xO ρ ds bs)) w c' v)
 | 0, c, v, c', ds, bs, hc, hr => by simp [rdC] at hr
 | n + 1, c, v, c', ds, bs, hc, hr => by
  have up : ∀ {c : CV} {F G : Nat -> Prop} {v : Value}, (∀ y, F y -> G y) -> CVR (ρ.withF F) w c v -> CVR (ρ.withF G) w c v := fun hFG => qBo ⟨hFG, fun _ h => h, rfl, rfl, rfl⟩
  have up0 : ∀ {c : CV} {F G : Nat -> Prop} {v : Value}, (∀ y, F y -> G y) -> zQ (ρ.withF F) w c v -> zQ (ρ.withF G) w c v := fun hFG =>
   qDk (Env.Le.moves (ρ := ρ.withF _) (ρ' := ρ.withF _) ⟨hFG, fun _ h => h, rfl, rfl, rfl⟩ (fun S => qC.refl S w) _)
  have both : ∀ {c' : CV} {G : Nat -> Prop}, zQ (ρ.withF G) w c' v -> CVR (ρ.withF G) w c' v /\ ((∀ f sh n cs, c ≠ .fn f sh n cs) -> zQ (ρ.withF G) w c' v) := fun h => ⟨zL h, fun _ => h⟩
  cases c with
  | int k x => simp only [rdC, Option.some.injEq, Prod.mk.injEq] at hr; obtain ⟨rfl, rfl, rfl⟩ := hr; exact both hc
  | bool x => simp only [rdC, Option.some.injEq, Prod.mk.injEq] at hr; obtain ⟨rfl, rfl, rfl⟩ := hr; exact both hc
  | str x => simp only [rdC, Option.some.injEq, Prod.mk.injEq] at hr; obtain ⟨rfl, rfl, rfl⟩ := hr; exact both hc
  | kon x => simp only [rdC, Option.some.injEq, Prod.mk.injEq] at hr; obtain ⟨rfl, rfl, rfl⟩ := hr; exact both hc
  | dat e t l =>
   simp only [rdC, Option.some.injEq, Prod.mk.injEq] at hr; obtain ⟨rfl, rfl, rfl⟩ := hr
   exact both (vX qI7 (qC.refl _ _) hc)
  | pdat e t x off =>
   simp only [rdC, Option.some.injEq, Prod.mk.injEq] at hr; obtain ⟨rfl, rfl, rfl⟩ := hr
   obtain ⟨b, o, cs, e1, h1, h2, h3⟩ := hc
   exact both ⟨b, o, cs, e1, .inl h1, h2, zK qI7 (qC.refl _ _) h3⟩
  | emp e t =>
   simp only [rdC, Option.some.injEq, Prod.mk.injEq] at hr; obtain ⟨rfl, rfl, rfl⟩ := hr
   obtain ⟨a, rfl⟩ := hc
   exact both ⟨a, 0, rfl, Nat.le_refl _, fun i hi => by simp at hi⟩
  | own d =>
   simp only [rdC] at hr
   split at hr
   ·rename_i s hs
    simp only [Option.some.injEq, Prod.mk.injEq] at hr; obtain ⟨rfl, rfl, rfl⟩ := hr
    exact both (wW h hs hc)
   ·cases hr
  | vw d lo hi =>
   simp only [rdC] at hr
   split at hr
   ·rename_i s hs
    simp only [Option.some.injEq, Prod.mk.injEq] at hr; obtain ⟨rfl, rfl, rfl⟩ := hr
    exact both (wW h hs hc)
   ·cases hr
  | nref d i off =>
   simp only [rdC] at hr
   split at hr
   ·rename_i s hs
    simp only [Option.some.injEq, Prod.mk.injEq] at hr; obtain ⟨rfl, rfl, rfl⟩ := hr
    exact both (wW h hs hc)
   ·cases hr
  | pelt d i off =>
   simp only [rdC] at hr
   split at hr
   ·rename_i r hrow
    simp only [Option.some.injEq, Prod.mk.injEq] at hr; obtain ⟨rfl, rfl, rfl⟩ := hr
    obtain ⟨b, n', c', e1, hi, e2⟩ := hc
    obtain ⟨hi', cs, g1, g2, g3⟩ := h.rowRd1 (qM hrow) (qN hrow) e1 hi
    refine both ⟨b, i * r.t.sz, cs, by rw [e2, (h.rows d r (qM hrow)).2.1], ?_, g1, ?_⟩
    ·exact g2.imp id fun g2 => .inl ⟨(d, 0), by simp, g2, .inl rfl⟩
    ·rw [wQ hi']
     exact zK (fun y hy => hy.imp id fun hy => .inl ⟨(d, 0), by simp, hy.1, .inl rfl⟩) (qC.refl _ _) g3
   ·cases hr
  | pn d i off j off2 =>
   simp only [rdC] at hr
   split at hr
   ·rename_i s hs
    simp only [Option.some.injEq, Prod.mk.injEq] at hr; obtain ⟨rfl, rfl, rfl⟩ := hr
    obtain ⟨ho, b, n', c', e, u, b', n2, c2, e1, hi, e2, e3, hj, e4⟩ := hc
    have := wW h hs (show zQ ρ w (.nref d i off) _ from ⟨⟨ho, b, n', c', e1, hi, e3⟩, trivial, rfl⟩)
    have hty : s.2.1 = u := by
     simp only [xL] at hs
     split at hs
     ·rename_i r hrow
      have := qAT hs
      rw [<- (h.rows d r (qM hrow)).2.1, e2] at this
      simp only [Option.some.injEq, Prod.mk.injEq] at this
      exact this.2.symm
     ·cases hs
    obtain ⟨e5, t5, l5⟩ := s
    simp only at hty this ⊢
    subst hty
    obtain ⟨a6, c6, e6, _, g⟩ := this
    simp only [Value.slice.injEq] at e6
    obtain ⟨rfl, rfl, rfl⟩ := e6
    obtain ⟨b7, o7, cs, e7, g1, g2, g3⟩ := g j hj
    simp only [Option.some.injEq, Addr.mk.injEq] at e7
    obtain ⟨rfl, rfl, _⟩ := e7
    refine both ⟨b', j * t5.sz, cs, e4, g1, by simpa using g2, ?_⟩
    rw [wQ hj]
    exact g3
   ·cases hr
  | pbox b off =>
   simp only [rdC] at hr
   split at hr
   ·rename_i bx hbx
    split at hr
    ·rename_i cs ds' bs' hm
     split at hr
     ·rename_i t ht
      split at hr
      ·rename_i x hx
       simp only [Option.some.injEq, Prod.mk.injEq] at hr; obtain ⟨rfl, rfl, rfl⟩ := hr
       obtain ⟨arr, fr, h1, h2, h3⟩ := h.cellsBox hbx
       have h4 := qEe (ρ := ρ) (f := rdC st _) (R := fun F c v => CVR (ρ.withF F) w c v) (fun _ _ _ _ hFG => up hFG) (fun _ _ _ _ _ hs hf => (qE9 h n hs hf).1) h3 hm
       have h5 : Rd (xO ρ ds' bs') w t x arr.toList := qCg hx (h4.imp fun _ _ h => qF5 h)
       have hle : ∀ y, xO ρ ds' bs' y -> xO ρ ds' (b :: bs') y := qAW (fun _ h => h) fun _ h => List.mem_cons_of_mem _ h
       refine both ⟨ρ.blk b, 0, arr.toList, by rw [show v = _ from hc, Nat.zero_add], .inr (.inr ⟨b, List.mem_cons_self, rfl⟩), fun j hj => ?_, zK hle (qC.refl _ _) h5⟩
       rw [jV]
       refine ⟨arr, _, fr, h1, ?_⟩
       simp at hj ⊢
      ·cases hr
     ·cases hr
    ·cases hr
   ·cases hr
  | fn f sh k cs =>
   simp only [rdC] at hr
   split at hr
   ·rename_i cs' ds' bs' hm
    simp only [Option.some.injEq, Prod.mk.injEq] at hr; obtain ⟨rfl, rfl, rfl⟩ := hr
    obtain ⟨first, caps, e1, hsz, hh⟩ := hc
    refine ⟨⟨first, caps, e1, hsz, ?_⟩, fun hn => absurd rfl (hn _ _ _ _)⟩
    exact qGo (ρ := ρ) (f := rdC st _) (R := fun F c v => zQ (ρ.withF F) w c v) (fun _ _ _ _ hFG => up0 hFG) (fun _ _ _ _ _ hs hf => (qE9 h n (zL hs) hf).2 (qGR hs)) hh hm
   ·cases hr
  | row _ => simp [rdC] at hr
  | boxr _ _ => simp [rdC] at hr
  | undef => simp [rdC] at hr
theorem qQw {φ : Fix} {ρ : Env} {st : St} {a : Act} {w : World} (h : Rep φ ρ st a w) {s s' : SV} {v : Value} {ds : List (Nat × Nat)} {bs : List Nat}
  (hs : SVR ρ w s v) (hr : rdS st s = some (s', ds, bs)) : SVR (ρ.withF (xO ρ ds bs)) w s' v := by
 cases s with
 | c x =>
  simp only [rdS] at hr
  split at hr
  ·rename_i y ds' bs' hy
   simp only [Option.some.injEq, Prod.mk.injEq] at hr; obtain ⟨rfl, rfl, rfl⟩ := hr
   exact (qE9 h 4 hs hy).1
  ·cases hr
 | agg xs =>
  simp only [rdS] at hr
  split at hr
  ·rename_i ys ds' bs' hy
   simp only [Option.some.injEq, Prod.mk.injEq] at hr; obtain ⟨rfl, rfl, rfl⟩ := hr
   obtain ⟨arr, e, ha⟩ := hs
   exact ⟨arr, e, qEe (ρ := ρ) (f := rdC st _) (R := fun F c v => CVR (ρ.withF F) w c v) (fun _ _ _ _ hFG => qBo ⟨hFG, fun _ h => h, rfl, rfl, rfl⟩) (fun _ _ _ _ _ hs hf => (qE9 h 4 hs hf).1) ha hy⟩
  ·cases hr
 | _ => simp [rdS] at hr
theorem qBj {F : Nat -> Prop} {w : World} {e : TypeId} {t : Ty} {n k : Nat} {l : List t.T} {B : Nat -> Prop} {v : Value} (hk : k <= n) (h : qJ F w (.sl e t) n l B [v]) :
  ∃ B', (∀ y, B' y -> B y) /\ (k = 0 -> ∀ y, ¬ B' y) /\ (k = 1 -> ∀ y, B' y -> Top v y) /\ qJ (fun y => F y \/ (B y /\ ¬ B' y)) w (.sl e t) k l B' [v] := by
 match k, hk with
 | 0, _ =>
  refine ⟨fun _ => False, fun _ h => h.elim, fun _ _ h => h, fun h => (by cases h), ?_⟩
  have := qAb h
  rw [qJ]
  exact zK (fun y hy => hy.imp id fun hy => ⟨hy, fun h => h⟩) (qC.refl _ _) this
 | 1, hk =>
  cases n with
  | zero => omega
  | succ n =>
   rw [qJ] at h
   obtain ⟨v', e1, a, c, hv, hh⟩ := h
   simp only [List.cons.injEq, and_true] at e1
   subst e1
   rcases hh with h0 | ⟨b, arr, fr, h1, h2, h3, h4, h5, h6, Bs, h7, h8, h9⟩
   ·refine ⟨fun _ => False, fun _ h => h.elim, fun _ _ h => h, fun _ _ h => h.elim, ?_⟩
    rw [qJ]; exact ⟨v, rfl, a, c, hv, .inl h0⟩
   ·refine ⟨fun y => y = b, fun y hy => hy ▸ h6, fun h => (by cases h), fun _ y hy => ⟨l.length, c, by rw [hv, h1, hy]; rfl⟩, ?_⟩
    rw [qJ]
    refine ⟨v, rfl, a, c, hv, .inr ⟨b, arr, fr, h1, h2, h3, h4, h5, rfl, fun _ _ => False, fun _ _ _ h => h.elim, fun _ _ _ _ _ h => h.elim, fun i hi => ?_⟩⟩
    obtain ⟨vs, g1, g2⟩ := h9 i hi
    refine ⟨vs, g1, qBM (zK (fun y hy => ?_) (qC.refl _ _) (qAb g2))⟩
    exact hy.imp id fun hy => h7 i y hi hy
 | k + 2, hk =>
  obtain ⟨B', g1, g2⟩ := qBk hk h
  exact ⟨B', g1, fun h => by omega, fun h => by omega, g2⟩
theorem qLw {F : Nat -> Prop} {w : World} {r : Row} {B : Nat -> Prop} {v : Value} {k : Nat} (h0 : r.hole = none \/ r.isMap = true) (hk : k <= r.m) (h : zJ F w r B v) :
  ∃ B', (∀ y, B' y -> B y) /\ zJ (fun y => F y \/ (B y /\ ¬ B' y)) w { r with m := k } B' v := by
 rcases h0 with h0 | h0
 ·obtain ⟨B', g1, _, _, g4⟩ := qBj hk (zJ.whole h0 h)
  exact ⟨B', g1, zJ.mk (r := { r with m := k }) h0 g4⟩
 ·obtain ⟨h1, h2⟩ := zJ.map h0 h
  exact ⟨B, fun _ h => h, zJ.mkMap (r := { r with m := k }) h0 h1 (qF1 (fun y hy => .inl hy) (qC.refl _ _) (qC.refl _ _) h2)⟩
theorem Rep.lowRow {φ : Fix} {ρ : Env} {st : St} {a : Act} {w : World} (h : Rep φ ρ st a w) {d : Nat} {r : Row} (hd : qL d st.rows = some r) (h0 : r.hole = none) {k : Nat} (hk : k <= r.m) :
  ∃ ρ', ρ.Le ρ' /\ (∀ e y, ρ'.ft e y -> ρ.ft e y) /\ (∀ y, ρ'.F y -> ρ.F y \/ ρ.ft d y) /\ (∀ e y, ρ.ft e y -> ρ'.ft e y \/ ρ'.F y) /\ (∀ y, ρ.ft d y -> (k = 0 \/ (k = 1 /\ ¬ Top (ρ.val d) y)) -> ρ'.F y) /\
   Rep φ ρ' { st with rows := put d { r with m := k } st.rows } a w := by
 obtain ⟨p1, p2, p3, p4⟩ := h.rows d r hd
 obtain ⟨B', g1, g2, g3, g4⟩ := qBj hk (zJ.whole h0 p3)
 refine ⟨{ ρ with F := fun y => ρ.F y \/ (ρ.ft d y /\ ¬ B' y), ft := fun e => if e = d then B' else ρ.ft e }, ⟨fun y hy => .inl hy, fun _ h => h, rfl, rfl, rfl⟩, ?_, ?_, ?_, ?_, ?_⟩
 ·intro e y hy
  simp only at hy
  split at hy
  ·rename_i he; subst he; exact g1 y hy
  ·exact hy
 ·exact fun y hy => hy.imp id fun hy => hy.1
 ·intro e y hy
  simp only
  by_cases he : e = d
  ·subst he; rw [if_pos rfl]
   by_cases hB : B' y
   ·exact .inl hB
   ·exact .inr (.inr ⟨hy, hB⟩)
  ·rw [if_neg he]; exact .inl hy
 ·rintro y hy (rfl | ⟨rfl, hn⟩)
  ·exact .inr ⟨hy, g2 rfl y⟩
  ·exact .inr ⟨hy, fun hb => hn (g3 rfl y hb)⟩
 ·have hlk : ∀ {e re}, qL e (put d { r with m := k } st.rows) = some re -> (e = d /\ re = { r with m := k }) \/ (e ≠ d /\ qL e st.rows = some re) := fun {e re} he => by
   rw [qP] at he
   by_cases hh : e = d
   ·rw [if_pos hh] at he; simp only [Option.some.injEq] at he; exact .inl ⟨hh, he.symm⟩
   ·rw [if_neg hh] at he; exact .inr ⟨hh, he⟩
  have old : ∀ {e re}, qL e (put d { r with m := k } st.rows) = some re -> ∃ re', qL e st.rows = some re' := fun {e re} he => by
   rcases hlk he with ⟨rfl, _⟩ | ⟨_, he⟩
   ·exact ⟨r, hd⟩
   ·exact ⟨re, he⟩
  have le : ρ.Le { ρ with F := fun y => ρ.F y \/ (ρ.ft d y /\ ¬ B' y), ft := fun e => if e = d then B' else ρ.ft e } := ⟨fun y hy => .inl hy, fun _ h => h, rfl, rfl, rfl⟩
  have sub : ∀ e y, (if e = d then B' else ρ.ft e) y -> ρ.ft e y := fun e y hy => by
   split at hy
   ·rename_i he; subst he; exact g1 y hy
   ·exact hy
  exact {
   size := h.size, nodef := h.nodef
   on := fun e he => by
    rw [qP]
    by_cases hh : e = d
    ·exact ⟨_, by rw [if_pos hh]⟩
    ·rw [if_neg hh]; exact h.on e he
   slots := fun s v hs => ⟨(h.slots s v hs).1, qDT le (h.slots s v hs).2⟩
   rows := fun e re he => by
    rcases hlk he with ⟨rfl, rfl⟩ | ⟨hne, he⟩
    ·exact ⟨p1, p2, by simpa using zJ.mk (r := { r with m := k }) h0 g4, p4⟩
    ·obtain ⟨q1, q2, q3, q4⟩ := h.rows e re he
     exact ⟨q1, q2, by simp only [if_neg hne]; exact vO (fun _ h => .inl h) (qC.refl _ _) (qC.refl _ _) q3, q4⟩
   boxes := fun b x hx => by
    obtain ⟨arr, fr, h1, h2, h3⟩ := h.boxes b x hx
    exact ⟨arr, fr, h1, h2, h3.imp fun _ _ => qBo le⟩
   rsep := fun e e' r1 r2 h1 h2 hn y hy hy' => by
    obtain ⟨q1, e1⟩ := old h1
    obtain ⟨q2, e2⟩ := old h2
    exact h.rsep e e' q1 q2 e1 e2 hn y (sub _ _ hy) (sub _ _ hy')
   rF := fun e r1 h1 y hy => by
    obtain ⟨q1, e1⟩ := old h1
    obtain ⟨k1, k2, k3⟩ := h.rF e q1 e1 y (sub _ _ hy)
    refine ⟨?_, k2, k3⟩
    rintro (hf | ⟨hf, hb⟩)
    ·exact k1 hf
    ·simp only at hy
     by_cases he : e = d
     ·rw [if_pos he] at hy; exact hb hy
     ·exact h.rsep e d q1 r e1 hd he y (sub _ _ hy) hf
   rb := fun e r1 b x h1 h2 hf => by
    obtain ⟨q1, e1⟩ := old h1
    exact h.rb e q1 b x e1 h2 (sub _ _ hf)
   bsep := h.bsep
   bF := fun b x hx => ⟨fun hro => by
    rintro (hf | ⟨hf, _⟩)
    ·exact (h.bF b x hx).1 hro hf
    ·exact h.rb d r b x hd hx hf, (h.bF b x hx).2⟩
   Fbd := fun y hy => by
    rcases hy with hy | ⟨hy, _⟩
    ·exact h.Fbd y hy
    ·exact ⟨(h.rF d r hd y hy).2.1, .inr (h.rF d r hd y hy).2.2⟩
   F0 := fun y hy => .inl (h.F0 y hy)
   grow := h.grow, io := h.io, tab := h.tab, keep := h.keep
   lentR := h.lentR, lentB := h.lentB }
theorem Rep.freezeBox {φ : Fix} {ρ : Env} {st : St} {a : Act} {w : World} (h : Rep φ ρ st a w) {b : Nat} {x : Box} (hb : qL b st.boxes = some x) :
  Rep φ (ρ.addF fun y => y = ρ.blk b) { st with boxes := put b { x with ro := true } st.boxes } a w := by
 have le : ρ.Le (ρ.addF fun y => y = ρ.blk b) := ⟨fun y hy => .inl hy, fun _ h => h, rfl, rfl, rfl⟩
 have hlk : ∀ {b' y}, qL b' (put b { x with ro := true } st.boxes) = some y -> (b' = b /\ y = { x with ro := true }) \/ (b' ≠ b /\ qL b' st.boxes = some y) := fun {b' y} hy => by
  rw [qP] at hy
  by_cases hh : b' = b
  ·rw [if_pos hh] at hy; simp only [Option.some.injEq] at hy; exact .inl ⟨hh, hy.symm⟩
  ·rw [if_neg hh] at hy; exact .inr ⟨hh, hy⟩
 have old : ∀ {b' y}, qL b' (put b { x with ro := true } st.boxes) = some y -> ∃ y', qL b' st.boxes = some y' := fun {b' y} hy => by
  rcases hlk hy with ⟨rfl, _⟩ | ⟨_, he⟩
  ·exact ⟨x, hb⟩
  ·exact ⟨y, he⟩
 have hlt : ρ.blk b < w.heap.size := by
  obtain ⟨arr, fr, h1, _⟩ := h.boxes b x hb
  exact h1.lt
 exact {
  size := h.size, nodef := h.nodef, on := h.on
  slots := fun s v hs => ⟨(h.slots s v hs).1, qDT le (h.slots s v hs).2⟩
  rows := fun e re he => by
   obtain ⟨q1, q2, q3, q4⟩ := h.rows e re he
   exact ⟨q1, q2, vO (fun _ h => .inl h) (qC.refl _ _) (qC.refl _ _) q3, q4⟩
  boxes := fun b' y hy => by
   rcases hlk hy with ⟨rfl, rfl⟩ | ⟨_, hy⟩
   ·obtain ⟨arr, fr, h1, h2, h3⟩ := h.boxes _ x hb
    exact ⟨arr, fr, h1, h2, h3.imp fun _ _ => qBo le⟩
   ·obtain ⟨arr, fr, h1, h2, h3⟩ := h.boxes b' y hy
    exact ⟨arr, fr, h1, h2, h3.imp fun _ _ => qBo le⟩
  rsep := h.rsep
  rF := fun d r hd y hy => by
   obtain ⟨k1, k2, k3⟩ := h.rF d r hd y hy
   refine ⟨?_, k2, k3⟩
   rintro (hf | rfl)
   ·exact k1 hf
   ·exact h.rb d r b x hd hb hy
  rb := fun d r b' y hd hy => by obtain ⟨y', hy'⟩ := old hy; exact h.rb d r b' y' hd hy'
  bsep := fun b1 b2 x1 x2 h1 h2 hn => by obtain ⟨y1, e1⟩ := old h1; obtain ⟨y2, e2⟩ := old h2; exact h.bsep b1 b2 y1 y2 e1 e2 hn
  bF := fun b' y hy => by
   rcases hlk hy with ⟨rfl, rfl⟩ | ⟨hne, hy⟩
   ·exact ⟨fun hro => (by cases hro), (h.bF _ x hb).2⟩
   ·refine ⟨fun hro => ?_, (h.bF b' y hy).2⟩
    rintro (hf | hf)
    ·exact (h.bF b' y hy).1 hro hf
    ·exact h.bsep b' b y x hy hb hne hf
  Fbd := fun y hy => by
   rcases hy with hy | rfl
   ·exact h.Fbd y hy
   ·exact ⟨hlt, .inr (h.bF b x hb).2⟩
  F0 := fun y hy => .inl (h.F0 y hy)
  grow := h.grow, io := h.io, tab := h.tab, keep := h.keep, lentR := h.lentR, lentB := h.lentB }
theorem Rep.putBox {φ : Fix} {ρ : Env} {st : St} {a : Act} {w w' : World} (h : Rep φ ρ st a w) {b : Nat} {x : Box} {arr : Array Value} {fr : Nat × Nat}
  (hg : w.heap.size <= w'.heap.size) (hio : zD w w') (hk : ∀ y, y < w.heap.size -> y ≠ ρ.blk b -> w'.heap[y]? = w.heap[y]?) (hF : ¬ ρ.F (ρ.blk b)) (hrow : ∀ d r, qL d st.rows = some r -> ¬ ρ.ft d (ρ.blk b))
  (hbox : ∀ b' x', qL b' st.boxes = some x' -> b' ≠ b -> ρ.blk b' ≠ ρ.blk b) (hm : φ.mine (ρ.blk b))
  (harr : xK x.it (w'.heap[ρ.blk b]?) x.e arr fr) (hfr : qBq arr.size fr) (hc : jC (CVR ρ w) x.cs arr.toList) :
  Rep φ ρ { st with boxes := put b x st.boxes } a w' := by
 have agree : ∀ S : Nat -> Prop, ¬ S (ρ.blk b) -> qC S w w' := fun S hS y o hy ho => by
  have : y < w.heap.size := by
   rcases Nat.lt_or_ge y w.heap.size with h' | h'
   ·exact h'
   ·simp [Array.getElem?_eq_none h'] at ho
  rw [hk y this (by rintro rfl; exact hS hy)]; exact ho
 have m : ∀ c : CV, jM ρ ρ w w' c := fun c => ⟨fun _ h => h, agree _ hF, fun _ _ => ⟨rfl, rfl⟩, fun e he ho => ⟨ho, fun b' n k hn hl => by
  obtain ⟨re, hre⟩ := h.on e ho
  refine agree _ ?_
  rintro rfl
  rcases qD9 (h.rows e re hre) hl hn with ⟨_, hf⟩ | ⟨_, hf⟩
  ·exact hF hf
  ·exact hrow e re hre hf⟩, fun _ _ => rfl⟩
 have hlk : ∀ {b' y}, qL b' (put b x st.boxes) = some y -> (b' = b /\ y = x) \/ (b' ≠ b /\ qL b' st.boxes = some y) := fun {b' y} hy => by
  rw [qP] at hy
  by_cases hh : b' = b
  ·rw [if_pos hh] at hy; simp only [Option.some.injEq] at hy; exact .inl ⟨hh, hy.symm⟩
  ·rw [if_neg hh] at hy; exact .inr ⟨hh, hy⟩
 exact {
  size := h.size, nodef := h.nodef, on := h.on
  slots := fun s v hs => ⟨(h.slots s v hs).1, kF (fun c _ => m c) (h.slots s v hs).2⟩
  rows := fun e re he => by
   obtain ⟨q1, q2, q3, q4⟩ := h.rows e re he
   exact ⟨q1, q2, vO (fun _ h => h) (agree _ hF) (agree _ (hrow e re he)) q3, q4⟩
  boxes := fun b' y hy => by
   rcases hlk hy with ⟨rfl, rfl⟩ | ⟨hne, hy⟩
   ·exact ⟨arr, fr, harr, hfr, hc.imp fun _ _ => jP (m _)⟩
   ·obtain ⟨arr', fr', h1, h2, h3⟩ := h.boxes b' y hy
    have hlt : ρ.blk b' < w.heap.size := h1.lt
    exact ⟨arr', fr', by rw [hk _ hlt (hbox b' y hy hne)]; exact h1, h2, h3.imp fun _ _ => jP (m _)⟩
  rsep := h.rsep
  rF := fun d r hd y hy => by obtain ⟨k1, k2, k3⟩ := h.rF d r hd y hy; exact ⟨k1, by omega, k3⟩
  rb := fun d r b' y hd hy => by
   rcases hlk hy with ⟨rfl, rfl⟩ | ⟨_, hy⟩
   ·exact hrow d r hd
   ·exact h.rb d r b' y hd hy
  bsep := fun b1 b2 x1 x2 h1 h2 hn => by
   rcases hlk h1 with ⟨e1, _⟩ | ⟨n1, k1⟩ <;> rcases hlk h2 with ⟨e2, _⟩ | ⟨n2, k2⟩
   ·exact absurd (e1.trans e2.symm) hn
   ·rw [e1]; exact fun e => hbox b2 x2 k2 n2 e.symm
   ·rw [e2]; exact hbox b1 x1 k1 n1
   ·exact h.bsep b1 b2 x1 x2 k1 k2 hn
  bF := fun b' y hy => by
   rcases hlk hy with ⟨rfl, rfl⟩ | ⟨_, hy⟩
   ·exact ⟨fun _ => hF, hm⟩
   ·exact h.bF b' y hy
  Fbd := fun y hy => ⟨Nat.lt_of_lt_of_le (h.Fbd y hy).1 hg, (h.Fbd y hy).2⟩
  F0 := h.F0
  grow := Nat.le_trans h.grow hg
  io := h.io.trans hio
  tab := h.tab
  keep := fun y hy hn => by
   have : y ≠ ρ.blk b := by
    rintro rfl
    rcases hm with hm | hm
    ·exact hn hm
    ·omega
   rw [hk y (Nat.lt_of_lt_of_le hy h.grow) this]; exact h.keep y hy hn
  lentR := h.lentR, lentB := h.lentB }
def qKG (p : Nat -> Prop) (c : CV) : Prop := ∀ d, p d -> c.says (CV.speaks d) = false
theorem jE {lo hi : Nat} {c : CV} : c.says (CV.within lo hi) = true ↔ ∃ d, lo <= d /\ d < hi /\ c.says (CV.speaks d) = true := by
 have one : ∀ x : CV, CV.within lo hi x = true ↔ ∃ d, lo <= d /\ d < hi /\ CV.speaks d x = true := by
  intro x
  cases x <;> simp [CV.within, CV.speaks]
 have many : ∀ cs : List CV, cs.any (CV.within lo hi) = true ↔ ∃ d, lo <= d /\ d < hi /\ cs.any (CV.speaks d) = true := by
  intro cs
  simp only [List.any_eq_true, one]
  constructor
  ·rintro ⟨x, hx, d, h1, h2, h3⟩; exact ⟨d, h1, h2, x, hx, h3⟩
  ·rintro ⟨d, h1, h2, x, hx, h3⟩; exact ⟨x, hx, d, h1, h2, h3⟩
 unfold CV.says
 cases c with
 | fn f sh n cs =>
  have e1 : CV.within lo hi (.fn f sh n cs) = false := rfl
  have e2 : ∀ d, CV.speaks d (.fn f sh n cs) = false := fun _ => rfl
  simp only [e1, e2, Bool.false_or]
  exact many cs
 | _ => simp only [Bool.or_false]; exact one _
theorem qA3 {φ : Fix} {a : Act} {w : World} {base : Nat} : ∀ {cs : List CV} {vs : List Value} {j : Nat} {ρ : Env} {st : St} (p : Nat -> Prop),
  Rep φ ρ st a w -> jC (fun c v => v.oneCell' = true /\ (qKG p c -> CVR ρ w c v)) cs vs ->
  ∃ ρ', Rep φ ρ' (xM st base j cs).2 a w /\ jC (fun c v => v.oneCell' = true /\ (qKG p c -> CVR ρ' w c v)) (xM st base j cs).1 vs /\ ρ'.F = ρ.F /\ ρ'.blk = ρ.blk /\
   (∀ c : CV, c.says (CV.within (base + j) (base + j + cs.length)) = false -> jM ρ ρ' w w c)
 | [], [], j, ρ, st, p, h, _ => ⟨ρ, h, trivial, rfl, rfl, fun c _ => jM.same (fun S => qC.refl S w) c⟩
 | c :: cs, v :: vs, j, ρ, st, p, h, ha => by
  have gen : (∀ e t, c ≠ .emp e t) -> ∃ ρ', Rep φ ρ' (xM st base (j + 1) cs).2 a w /\
    jC (fun c v => v.oneCell' = true /\ (qKG p c -> CVR ρ' w c v)) (c.kill (CV.within (base + j + 1) (base + j + 1 + cs.length)) :: (xM st base (j + 1) cs).1) (v :: vs) /\ ρ'.F = ρ.F /\ ρ'.blk = ρ.blk /\
    (∀ c : CV, c.says (CV.within (base + j) (base + j + (cs.length + 1))) = false -> jM ρ ρ' w w c) := by
   intro _
   obtain ⟨ρ', g1, g2, g3, g4, g5⟩ := qA3 (base := base) (j := j + 1) p h ha.2
   refine ⟨ρ', g1, ⟨⟨ha.1.1, fun hp => ?_⟩, g2⟩, g3, g4, fun c hc => g5 c ?_⟩
   ·unfold CV.kill at hp ⊢
    split
    ·exact ha.1.1
    ·rename_i hs
     rw [if_neg hs] at hp
     exact jP (g5 c (by simpa [Nat.add_assoc] using hs)) (ha.1.2 hp)
   ·rw [Bool.eq_false_iff] at hc ⊢
    intro hh
    obtain ⟨d, h1, h2, h3⟩ := jE.1 hh
    exact hc (jE.2 ⟨d, by omega, by omega, h3⟩)
  cases c with
  | emp e t =>
   simp only [xM]
   have h1 : qKG p (.emp e t) := fun d _ => rfl
   obtain ⟨av, rfl⟩ : ∃ av, v = .slice av 0 0 := ha.1.2 h1
   have hrow : Rep φ (ρ.setRow (base + j) (.slice av 0 0) t (fun _ => False)) (st.addRow (base + j) { e := e, t := t, l := [], m := 99 }) a w :=
    h.addRow (jO.refl w) (r := { e := e, t := t, l := [], m := 99 }) rfl (by show qJ _ _ _ (98 + 1) _ _ _; rw [qJ]; exact ⟨_, rfl, av, 0, rfl, .inl ⟨rfl, rfl⟩⟩) (fun hh => absurd rfl hh) (fun _ h => h.elim) (fun _ _ _ _ _ _ h => h) (fun _ _ _ h => h)
   have hm : ∀ c : CV, c.says (CV.speaks (base + j)) = false -> jM ρ (ρ.setRow (base + j) (.slice av 0 0) t (fun _ => False)) w w c := fun c hc => jM.setRow (fun S => qC.refl S w) hc
   obtain ⟨ρ', g1, g2, g3, g4, g5⟩ := qA3 (base := base) (j := j + 1) (fun d => p d \/ d = base + j) hrow
    (ha.2.imp fun c v hcv => ⟨hcv.1, fun hp => jP (hm c (hp _ (.inr rfl))) (hcv.2 fun d hd => hp d (.inl hd))⟩)
   refine ⟨ρ', g1, ⟨⟨rfl, fun _ => ?_⟩, yF (fun c v _ hcv => ⟨hcv.1, fun hp => ?_⟩) g2⟩, g3, g4, fun c hc => ?_⟩
   ·have : CVR (ρ.setRow (base + j) (.slice av 0 0) t (fun _ => False)) w (.own (base + j)) (.slice av 0 0) := by simp [CVR, zQ, Env.setRow, Value.oneCell']
    refine jP (g5 _ ?_) this
    rw [Bool.eq_false_iff]
    intro hh
    obtain ⟨d, h1, h2, h3⟩ := jE.1 hh
    simp [CV.says, CV.speaks] at h3
    omega
   ·unfold CV.kill at hp ⊢
    split
    ·exact hcv.1
    ·rename_i hs
     rw [if_neg hs] at hp
     refine hcv.2 fun d hd => ?_
     rcases hd with hd | rfl
     ·exact hp d hd
     ·rw [Bool.eq_false_iff]
      intro hh
      exact hs (jE.2 ⟨base + j, Nat.le_refl _, by omega, hh⟩)
   ·have h0 : c.says (CV.speaks (base + j)) = false := by
     rw [Bool.eq_false_iff] at hc ⊢
     intro hh
     exact hc (jE.2 ⟨base + j, Nat.le_refl _, by simp, hh⟩)
    have h2 := g5 c (by
     rw [Bool.eq_false_iff] at hc ⊢
     intro hh
     obtain ⟨d, h1, h2, h3⟩ := jE.1 hh
     exact hc (jE.2 ⟨d, by omega, by simp only [List.length_cons]; omega, h3⟩))
    have h1 := hm c h0
    exact ⟨fun y hy => h2.F y (h1.F y hy), qC.refl _ _, fun d hd => ⟨(h2.row d hd).1.trans (h1.row d hd).1, (h2.row d hd).2.trans (h1.row d hd).2⟩,
     fun d hd ho => ⟨(h2.nest d hd (h1.nest d hd ho).1).1, fun _ _ _ _ _ => qC.refl _ _⟩, fun b hb => (h2.box b hb).trans (h1.box b hb)⟩
  | _ => exact gen (by intro e t; exact CV.noConfusion)
theorem Rep.addBox {φ : Fix} {ρ : Env} {st : St} {a : Act} {w w' : World} (h : Rep φ ρ st a w) {b : Nat} {x : Box} {arr : Array Value} {fr : Nat × Nat}
  (hg : jO w w') {nb : Nat} (hnb : w.heap.size <= nb) (harr : xK x.it (w'.heap[nb]?) x.e arr fr) (hfr : qBq arr.size fr) (hc : jC (CVR ρ w) x.cs arr.toList) :
  ∃ ρ', Rep φ ρ' (st.addBox b x) a w' /\ ρ'.blk b = nb := by
 have m : ∀ c : CV, c.says (CV.pts b) = false -> jM ρ (ρ.setBlk b nb) w w c := fun c hc =>
  ⟨fun _ h => h, qC.refl _ _, fun _ _ => ⟨rfl, rfl⟩, fun d _ ho => ⟨ho, fun _ _ _ _ _ => qC.refl _ _⟩, fun b' hb' => by
   have : b' ≠ b := by rintro rfl; rw [hc] at hb'; cases hb'
   simp [Env.setBlk, this]⟩
 have hbx : ∀ {b' y}, qL b' (del b (st.kill (CV.pts b)).boxes) = some y -> b' ≠ b /\ qL b' (st.kill (CV.pts b)).boxes = some y := fun {b' y} hy => by
  rw [wL] at hy
  split at hy
  ·cases hy
  ·rename_i hn; exact ⟨hn, hy⟩
 have hbx' : ∀ {b' y}, qL b' (del b (st.kill (CV.pts b)).boxes) = some y -> b' ≠ b /\ ∃ y', qL b' st.boxes = some y' /\ y.ro = y'.ro := fun {b' y} hy => by
  obtain ⟨hn, hy⟩ := hbx hy
  obtain ⟨y', hy', rfl⟩ := qK hy
  exact ⟨hn, y', hy', rfl⟩
 have blk : ∀ {b'}, b' ≠ b -> (ρ.setBlk b nb).blk b' = ρ.blk b' := fun hn => by simp [Env.setBlk, hn]
 have h1 : Rep φ (ρ.setBlk b nb) { st.kill (CV.pts b) with boxes := del b (st.kill (CV.pts b)).boxes, lentB := (st.kill (CV.pts b)).lentB.filter fun y => !(y == b) } a w := {
  size := h.size, nodef := h.nodef, on := h.on
  slots := h.slots_kill m
  rows := fun d r hd => h.rows d r hd
  boxes := fun b' y hy => by
   obtain ⟨hn, hy⟩ := hbx hy
   obtain ⟨y', hy', rfl⟩ := qK hy
   obtain ⟨arr', fr', k1, k2, k3⟩ := h.boxes b' y' hy'
   exact ⟨arr', fr', by rw [blk hn]; exact k1, k2, yF (fun c v _ hc => qBG (m c) hc) k3⟩
  rsep := h.rsep, rF := h.rF
  rb := fun d r b' y hd hy => by obtain ⟨hn, y', hy', _⟩ := hbx' hy; rw [blk hn]; exact h.rb d r b' y' hd hy'
  bsep := fun b1 b2 x1 x2 k1 k2 hn => by
   obtain ⟨n1, y1, e1, _⟩ := hbx' k1
   obtain ⟨n2, y2, e2, _⟩ := hbx' k2
   rw [blk n1, blk n2]; exact h.bsep b1 b2 y1 y2 e1 e2 hn
  bF := fun b' y hy => by obtain ⟨hn, y', hy', e⟩ := hbx' hy; rw [blk hn, e]; exact h.bF b' y' hy'
  Fbd := h.Fbd, F0 := h.F0, grow := h.grow, io := h.io, tab := h.tab, keep := h.keep, lentR := h.lentR
  lentB := fun b' hb' => by
   have h1 := List.mem_filter.1 hb'
   have : b' ≠ b := by rintro rfl; simp at h1
   rw [blk this]; exact h.lentB b' h1.1 }
 have hcs : jC (fun c v => v.oneCell' = true /\ (qKG (fun _ => False) c -> CVR (ρ.setBlk b nb) w c v)) (x.cs.map (CV.kill (CV.pts b))) arr.toList :=
  yF (fun c v _ hc => ⟨qAc hc, fun _ => qBG (m c) hc⟩) hc
 obtain ⟨ρ', g1, g2, g3, g4, _⟩ := qA3 (base := qS b) (j := 0) (fun _ => False) h1 hcs
 have hb : ρ'.blk b = nb := by rw [g4]; simp [Env.setBlk]
 have hF : ¬ ρ'.F nb := fun hf => by have := (g1.Fbd nb hf).1; omega
 refine ⟨ρ', ?_, hb⟩
 refine Rep.putBox g1 (b := b) (x := { x with cs := (xM _ (qS b) 0 (x.cs.map (CV.kill (CV.pts b)))).1 }) (fr := fr) (arr := arr) hg.1 hg.io (fun y hy _ => hg.2 y hy) (by rw [hb]; exact hF)
  (fun d r hd => by rw [hb]; intro hf; have := (g1.rF d r hd nb hf).2.1; omega) (fun b' x' hb' hn => ?_) (by rw [hb]; exact .inr (Nat.le_trans h.grow hnb)) (by rw [hb]; exact harr) hfr (g2.imp fun c v hcv => hcv.2 fun d hd => hd.elim)
 obtain ⟨arr', fr', k1, _⟩ := g1.boxes b' x' hb'
 rw [hb]
 intro he
 rw [he] at k1
 have := k1.lt
 omega
theorem qBc {φ : Fix} {a : Act} {w : World} : ∀ {ds : List (Nat × Nat)} {ρ : Env} {st : St}, (∀ p, p ∈ ds -> p.2 <= 1) -> Rep φ ρ st a w ->
  ∃ ρ', ρ.Le ρ' /\ (∀ e y, ρ'.ft e y -> ρ.ft e y) /\ (∀ y, xO ρ ds [] y -> (∀ p, p ∈ ds -> ∃ r, st.row? p.1 = some r) -> ρ'.F y) /\ Rep φ ρ' (zO st ds) a w
 | [], ρ, st, _, h => ⟨ρ, Env.Le.refl ρ, fun _ _ h => h, fun y hy _ => (by
   rcases hy with hy | ⟨p, hp, _⟩ | ⟨b, hb, _⟩
   ·exact hy
   ·cases hp
   ·cases hb), h⟩
 | (d, k) :: ds, ρ, st, hk, h => by
  have hk1 : k <= 1 := hk (d, k) List.mem_cons_self
  have hks : ∀ p, p ∈ ds -> p.2 <= 1 := fun p hp => hk p (List.mem_cons_of_mem _ hp)
  simp only [zO]
  split
  ·rename_i r hr
   obtain ⟨ρ1, l1, f1, n1, c1, s1, h1⟩ := h.lowRow (qM hr) (qN hr) (k := Nat.min r.m k) (Nat.min_le_left _ _)
   obtain ⟨ρ2, l2, f2, s2, h2⟩ := qBc hks h1
   refine ⟨ρ2, l1.trans l2, fun e y hy => f1 e y (f2 e y hy), fun y hy hall => ?_, h2⟩
   have hall' : ∀ p, p ∈ ds -> ∃ r', ({ st with rows := put d { r with m := Nat.min r.m k } st.rows } : St).row? p.1 = some r' := fun p hp => by
    simp only [St.row?, qP]
    by_cases hpd : p.1 = d
    ·simp only [if_pos hpd, qN hr]; exact ⟨_, rfl⟩
    ·simp only [if_neg hpd]; exact hall p (List.mem_cons_of_mem _ hp)
   rcases hy with hy | ⟨p, hp, hf, hp2⟩ | ⟨b, hb, _⟩
   ·exact l2.F y (l1.F y hy)
   ·rcases List.mem_cons.1 hp with rfl | hp
    ·
     have hmin : Nat.min r.m k = 0 \/ Nat.min r.m k = k := by
      rcases Nat.le_total r.m k with h' | h'
      ·have : Nat.min r.m k = r.m := Nat.min_eq_left h'
       rw [this]; omega
      ·right; exact Nat.min_eq_right h'
     refine l2.F y (s1 y hf ?_)
     rcases hmin with hm | hm
     ·exact .inl hm
     ·rw [hm]
      rcases hp2 with hp2 | hp2
      ·exact .inl hp2
      ·simp only at hp2
       rcases Nat.eq_zero_or_pos k with h0 | h0
       ·exact .inl h0
       ·exact .inr ⟨by omega, hp2⟩
    ·rcases c1 p.1 y hf with hf | hf
     ·exact s2 y (.inr (.inl ⟨p, hp, hf, hp2.imp id fun hp2 => by rw [l1.val]; exact hp2⟩)) hall'
     ·exact l2.F y hf
   ·cases hb
  ·rename_i hr
   obtain ⟨ρ2, l2, f2, s2, h2⟩ := qBc hks h
   refine ⟨ρ2, l2, f2, fun y hy hall => ?_, h2⟩
   obtain ⟨r, hr'⟩ := hall (d, k) List.mem_cons_self
   rw [hr] at hr'; cases hr'
theorem qAw {φ : Fix} {a : Act} {w : World} : ∀ {bs : List Nat} {ρ : Env} {st : St}, Rep φ ρ st a w ->
  ∃ ρ', ρ.Le ρ' /\ ρ'.ft = ρ.ft /\ (∀ b x, b ∈ bs -> qL b st.boxes = some x -> ρ'.F (ρ.blk b)) /\ Rep φ ρ' (zH st bs) a w
 | [], ρ, st, h => ⟨ρ, Env.Le.refl ρ, rfl, fun b x hb => (by cases hb), h⟩
 | b :: bs, ρ, st, h => by
  simp only [zH]
  split
  ·rename_i x hx
   have h1 := h.freezeBox hx
   obtain ⟨ρ2, l2, f2, s2, h2⟩ := qAw (bs := bs) h1
   have l1 : ρ.Le (ρ.addF fun y => y = ρ.blk b) := ⟨fun y hy => .inl hy, fun _ h => h, rfl, rfl, rfl⟩
   refine ⟨ρ2, l1.trans l2, f2, fun b' x' hb' hx' => ?_, h2⟩
   rcases List.mem_cons.1 hb' with rfl | hb'
   ·exact l2.F _ (.inr rfl)
   ·refine s2 b' (if b' = b then { x with ro := true } else x') hb' ?_
    rw [qP]
    by_cases hh : b' = b
    ·simp [hh]
    ·simp [hh, hx']
  ·rename_i hx
   obtain ⟨ρ2, l2, f2, s2, h2⟩ := qAw (bs := bs) h
   refine ⟨ρ2, l2, f2, fun b' x' hb' hx' => ?_, h2⟩
   rcases List.mem_cons.1 hb' with rfl | hb'
   ·rw [hx] at hx'; cases hx'
   ·exact s2 b' x' hb' hx'
def qCX : Ty -> Option TypeDesc -> Bool
 | .int q, some (.int q') => q == q'
 | .bool, some .bool => true
 | .str, some .string => true
 | _, _ => false
def eqB (P : Program) : Nat -> List Field -> List Ty -> Bool
 | _, [], [] => true
 | k, f :: fs, u :: us => f.name != "_" && f.offset == k && qCX u (P.underlying f.type) && eqB P (k + 1) fs us
 | _, _, _ => false
structure qMf (P : Program) (t : TypeId) (i : TI) : Prop where
 inf : ∃ inf, P.info? t = some inf /\ inf.size = i.size /\ inf.bytes = i.bytes /\ ∃ z, inf.zero = some z /\ (∀ ρ w, jC (zQ ρ w) i.zero z.cells.toList) /\ z.cells.size = i.size /\
  (i.isAgg = true -> ∃ arr, z = .agg arr) /\ (i.isAgg = false -> z.cells = #[z])
 und : ∃ d, P.underlying t = some d /\ i.isAgg = (match d with | .struct _ | .array _ _ => true | _ => false)
 elem : ∀ e, i.elem = some e -> P.underlying t = some (.slice e)
 flds : ∀ fs : Array Field, P.underlying t = some (.struct fs) -> fs.size = i.fields.length /\ ∀ (f : Nat) off ft, i.fields[f]? = some (off, ft) -> ∃ fd : Field, fs[f]? = some fd /\ fd.offset = off /\ fd.type = ft /\ (P.info? ft).isSome = true
 strct : i.fields ≠ [] -> ∃ fs, P.underlying t = some (.struct fs)
 nodat : ∀ c, c ∈ i.zero -> ∀ e t l, c ≠ .dat e t l
 tyInt : ∀ k, i.sty = some (.int k) -> P.underlying t = some (.int k)
 tyBool : i.sty = some .bool -> P.underlying t = some .bool
 tyStr : i.sty = some .str -> P.underlying t = some .string
 tySl : ∀ e u, i.sty = some (.sl e u) -> P.underlying t = some (.slice e)
 mpt : ∀ kt vt, i.mpt = some (kt, vt) -> P.underlying t = some (.map kt vt)
 eqs : i.eqc ≠ [] -> P.stoodInHeld t = false /\ P.eqGuardType P.depth t = false /\ ∃ fs : Array Field, P.underlying t = some (.struct fs) /\ eqB P 0 fs.toList i.eqc = true
structure jK (P : Program) (C : Ctx) : Prop where
 ti : ∀ t i, C.ti t = some i -> qMf P t i
 fs : ∀ f fn, C.fs f = some fn -> P.funcs[f]? = some fn
theorem qMf.one {P : Program} {t : TypeId} {i : TI} (h : qMf P t i) (ha : i.isAgg = false) : i.size = 1 := by
 obtain ⟨inf, _, _, _, z, _, _, h1, _, h2⟩ := h.inf
 rw [<- h1, h2 ha]; rfl
theorem qMf.runSize {P : Program} {t : TypeId} {i : TI} (h : qMf P t i) (w : World) : (sizeOf t).run P w = .ok i.size w := by
 obtain ⟨inf, h1, h2, _⟩ := h.inf
 simp [sizeOf, typeInfo, h1, h2]
theorem qMf.runAgg {P : Program} {t : TypeId} {i : TI} (h : qMf P t i) (w : World) : (isAgg t).run P w = .ok i.isAgg w := by
 obtain ⟨d, h1, h2⟩ := h.und
 unfold isAgg
 rw [Sem.run_bind, run_underlying h1 w, h2]
 cases d <;> rfl
theorem qNI {v : Value} {s : SV} {ρ : Env} {w : World} (h : lit v = some s) : SVR ρ w s v := by
 cases v with
 | bool b => simp only [lit, Option.some.injEq] at h; subst h; rfl
 | int k n => simp only [lit, Option.some.injEq] at h; subst h; rfl
 | string s => simp only [lit, Option.some.injEq] at h; subst h; rfl
 | pointer a =>
  cases a with
  | none => simp only [lit, Option.some.injEq] at h; subst h; exact ⟨rfl, rfl⟩
  | some a => simp [lit] at h
 | func f first caps =>
  simp only [lit] at h
  split at h
  ·rename_i h0
   cases f with
   | func g =>
    simp only [Option.some.injEq] at h
    subst h
    refine ⟨first, caps, rfl, h0.1, rfl, ?_⟩
    have h1 : first = #[] := Array.size_eq_zero_iff.1 h0.1
    have h2 : caps = #[] := Array.size_eq_zero_iff.1 h0.2
    rw [h1, h2]; rfl
   | _ => simp at h
  ·cases h
 | nilFunc => simp only [lit, Option.some.injEq] at h; subst h; exact ⟨rfl, rfl⟩
 | nilIface => simp only [lit, Option.some.injEq] at h; subst h; exact ⟨rfl, rfl⟩
 | map r =>
  cases r with
  | none => simp only [lit, Option.some.injEq] at h; subst h; exact ⟨rfl, rfl⟩
  | some a => simp [lit] at h
 | _ => simp [lit] at h
section
variable {φ : Fix} {ρ : Env} {st : St} {a : Act} {w : World} {P : Program} {C : Ctx}
theorem qW (h : Rep φ ρ st a w) {x : Operand} {v : SV} (hv : opv st x = some v) : SVR ρ w v (a.eval x) := by
 cases x with
 | tmp t => exact (h.slots t v hv).2
 | const c => exact qNI hv
 | func f => simp only [opv, Option.some.injEq] at hv; subst hv; exact ⟨#[], #[], rfl, rfl, rfl, rfl⟩
 | global g => simp [opv] at hv
theorem qHD {x : Operand} (h : qJL x = true) : a.eval x = .slice none 0 0 := by
 unfold qJL at h
 split at h
 ·rfl
 ·cases h
theorem qAD (h : Rep φ ρ st a w) {t : TypeId} {x : Operand} {v : SV} (hv : qLF C st t x = some v) : SVR ρ w v (a.eval x) := by
 unfold qLF at hv
 split at hv
 ·rename_i hn
  split at hv
  ·simp only [Option.some.injEq] at hv
   subst hv
   rw [qHD hn]
   exact ⟨none, rfl⟩
  ·cases hv
 ·exact qW h hv
theorem qGg (h : Rep φ ρ st a w) : ∀ {xs : List Operand} {vs : List SV}, qNc st xs = some vs -> jC (SVR ρ w) vs (xs.map a.eval)
 | [], vs, hv => by simp only [qNc, Option.some.injEq] at hv; subst hv; trivial
 | x :: xs, vs, hv => by
  simp only [qNc] at hv
  split at hv
  ·rename_i v vs' h1 h2
   simp only [Option.some.injEq] at hv; subst hv
   exact ⟨qW h h1, qGg h h2⟩
  ·cases hv
theorem qCh (h : Rep φ ρ st a w) : ∀ {ts : List TypeId} {xs : List Operand} {vs : List SV}, qGh C st ts xs = some vs -> jC (SVR ρ w) vs (xs.map a.eval)
 | _, [], vs, hv => by simp only [qGh, Option.some.injEq] at hv; subst hv; trivial
 | ts, x :: xs, vs, hv => by
  simp only [qGh] at hv
  split at hv
  ·rename_i v vs' h1 h2
   simp only [Option.some.injEq] at hv; subst hv
   exact ⟨qAD h h1, qCh h h2⟩
  ·cases hv
theorem kQ (h : Rep φ ρ st a w) {x : Option Operand} {n : Option Int} (hv : xN st x = some n) : (x = none /\ n = none) \/ ∃ y k m, x = some y /\ n = some m /\ a.eval y = .int k m := by
 cases x with
 | none => simp only [xN, Option.some.injEq] at hv; exact .inl ⟨rfl, hv.symm⟩
 | some y =>
  simp only [xN] at hv
  split at hv
  ·rename_i k m hm
   simp only [Option.some.injEq] at hv
   exact .inr ⟨y, k, m, rfl, hv.symm, qW h hm⟩
  ·cases hv
theorem qAk {v : SV} {cs : List CV} {x : Value} (h : v.cells? = some cs) (hv : SVR ρ w v x) : jC (CVR ρ w) cs x.cells.toList := by
 cases v with
 | c y =>
  simp only [SV.cells?, Option.some.injEq] at h
  subst h
  have h1 : CVR ρ w y x := hv
  have h2 := qAc h1
  cases x <;> simp_all [Value.cells, jC, Value.oneCell']
 | agg xs =>
  simp only [SV.cells?, Option.some.injEq] at h
  subst h
  obtain ⟨arr, rfl, h1⟩ := hv
  exact h1
 | _ => simp [SV.cells?] at h
theorem qBp {cs : List CV} {vs : List Value} (h : jC (CVR ρ w) cs vs) : ∀ v, v ∈ vs -> v.oneCell' = true := by
 induction cs generalizing vs with
 | nil => cases vs with
  | nil => intro v hv; cases hv
  | cons _ _ => exact h.elim
 | cons c cs ih => cases vs with
  | nil => exact h.elim
  | cons u vs =>
   intro v hv
   rcases List.mem_cons.1 hv with rfl | hv
   ·exact qAc h.1
   ·exact ih h.2 v hv
theorem qHm (hC : jK P C) {t : TypeId} {cs : List CV} {v : SV} {vs : List Value} (h : mkV C t cs = some v) (hc : jC (CVR ρ w) cs vs) :
  ∃ i, C.ti t = some i /\ vs.length = i.size /\ ((i.isAgg = true /\ SVR ρ w v (.agg vs.toArray)) \/ (i.isAgg = false /\ ∃ x, vs = [x] /\ SVR ρ w v x)) := by
 unfold mkV qCv at h
 cases hi : C.ti t with
 | none => simp [hi] at h
 | some i =>
  refine ⟨i, rfl, ?_⟩
  simp only [hi, Option.map_some] at h
  cases hagg : i.isAgg with
  | true =>
   simp only [hagg] at h
   split at h
   ·rename_i hl
    simp only [Option.some.injEq] at h
    subst h
    exact ⟨by rw [<- hc.length, hl], .inl ⟨rfl, vs.toArray, rfl, by simpa using hc⟩⟩
   ·cases h
  | false =>
   simp only [hagg] at h
   split at h
   ·rename_i x
    simp only [Option.some.injEq] at h
    subst h
    cases vs with
    | nil => exact hc.elim
    | cons y ys =>
     cases ys with
     | nil => exact ⟨((hC.ti t i hi).one hagg).symm ▸ rfl, .inr ⟨rfl, y, rfl, hc.1⟩⟩
     | cons _ _ => exact hc.2.elim
   ·cases h
def Ans (P : Program) (φ : Fix) (s : Sem Value) (a : Act) (w : World) (st : St) (v : SV) : Prop :=
 ∃ ρ x w', s.run P w = .ok x w' /\ Rep φ ρ st a w' /\ SVR ρ w' v x
theorem Ans.pure {s : Sem Value} {v : SV} {x : Value} (h : Rep φ ρ st a w) (hs : s.run P w = .ok x w) (hv : SVR ρ w v x) : Ans P φ s a w st v := ⟨ρ, x, w, hs, h, hv⟩
def Did (P : Program) (φ : Fix) (o : Oper) (a : Act) (w : World) (st : St) (v : SV) : Prop :=
 ∃ ρ w', Rep φ ρ st a w' /\ ((∃ x, (execOp a.eval o).run P w = .ok (.value x) w' /\ SVR ρ w' v x) \/ ((execOp a.eval o).run P w = .ok .skip w' /\ SVR ρ w' v undef))
theorem Did.of_ans {o : Oper} {s : Sem Value} {v : SV} (he : execOp a.eval o = (do pure (.value (<- s)))) (h : Ans P φ s a w st v) : Did P φ o a w st v := by
 obtain ⟨ρ, x, w', h1, h2, h3⟩ := h
 exact ⟨ρ, w', h2, .inl ⟨x, by rw [he, Sem.run_bind, h1]; rfl, h3⟩⟩
theorem Did.of_unit {o : Oper} {s : Sem Unit} {v : SV} {w' : World} (he : execOp a.eval o = (do s; pure .skip)) (h1 : s.run P w = .ok () w') (h2 : Rep φ ρ st a w') (h3 : SVR ρ w' v undef) : Did P φ o a w st v :=
 ⟨ρ, w', h2, .inr ⟨by rw [he, Sem.run_bind, h1]; rfl, h3⟩⟩
theorem vA (b o n : Nat) : (⟨b, o, none⟩ : Addr).add n = ⟨b, o + n, none⟩ := by
 unfold Addr.add; split
 ·rename_i h; rw [h]; rfl
 ·rfl
theorem qId {w : World} {b off : Nat} {vs : List Value} (h : qV w b off vs) : (loadCells ⟨b, off, none⟩ vs.length).run P w = .ok vs.toArray w :=
 run_loadCells_list w _ vs fun j v hv => by
  obtain ⟨hj, rfl⟩ := List.getElem?_eq_some_iff.1 hv
  rw [vA]; exact h j hj
theorem wC {w : World} {b off : Nat} {vs : List Value} {arr : Array Value} {e : TypeId} {fr : Nat × Nat} (hb : w.heap[b]? = some (.cells arr e fr)) (hf : qBq arr.size fr)
  (hl : off + vs.length <= arr.size) (h1 : ∀ v, v ∈ vs -> v.oneCell' = true) : ∃ w', (storeCells ⟨b, off, none⟩ vs).run P w = .ok () w' /\
   w'.heap.size = w.heap.size /\ zD w w' /\ (∀ y, y ≠ b -> w'.heap[y]? = w.heap[y]?) /\
   w'.heap[b]? = some (.cells (arr.toList.take off ++ vs ++ arr.toList.drop (off + vs.length)).toArray e fr) := by
 have key : ∀ (vs : List Value) (i : Nat) (w : World) (arr : Array Value), w.heap[b]? = some (.cells arr e fr) -> qBq arr.size fr -> off + i + vs.length <= arr.size -> (∀ v, v ∈ vs -> v.oneCell' = true) ->
   ∃ w', (storeCells ⟨b, off, none⟩ vs i).run P w = .ok () w' /\ w'.heap.size = w.heap.size /\ zD w w' /\ (∀ y, y ≠ b -> w'.heap[y]? = w.heap[y]?) /\
    w'.heap[b]? = some (.cells (arr.toList.take (off + i) ++ vs ++ arr.toList.drop (off + i + vs.length)).toArray e fr) := by
  intro vs
  induction vs with
  | nil =>
   intro i w arr hb hf hl _
   exact ⟨w, rfl, rfl, zD.refl w, fun _ _ => rfl, by simpa using hb⟩
  | cons v vs ih =>
   intro i w arr hb hf hl h1
   have hlt : off + i < arr.size := by simp only [List.length_cons] at hl; omega
   have hc : w.cell? ⟨b, off + i, none⟩ = some arr[off + i] := jV.2 ⟨arr, e, fr, hb, by simp [hlt]⟩
   have hfz : w.frozen? ⟨b, off + i, none⟩ = false := by
    simp only [World.frozen?, hb]
    have := hf.2 (off + i) hlt
    obtain ⟨lo, hi⟩ := fr
    simp only [Bool.and_eq_false_iff, decide_eq_false_iff_not]
    simp only at this
    omega
   have hset : (w.setCell ⟨b, off + i, none⟩ v).heap[b]? = some (.cells (arr.setIfInBounds (off + i) v) e fr) := by
    simp only [World.setCell, Array.getElem?_modify, if_true, hb, Option.map_some, Option.isSome_none]
    rfl
   have hoth : ∀ y, y ≠ b -> (w.setCell ⟨b, off + i, none⟩ v).heap[y]? = w.heap[y]? := fun y hy => by
    simp only [World.setCell, Array.getElem?_modify]
    rw [if_neg (Ne.symm hy)]
   obtain ⟨w', g1, g2, g3, g4, g5⟩ := ih (i + 1) (w.setCell ⟨b, off + i, none⟩ v) (arr.setIfInBounds (off + i) v) hset (by simpa using hf) (by simp only [List.length_cons] at hl; simp; omega)
    (fun u hu => h1 u (List.mem_cons_of_mem _ hu))
   refine ⟨w', ?_, ?_, ?_, fun y hy => (g4 y hy).trans (hoth y hy), ?_⟩
   ·simp only [storeCells, Sem.run_bind, vA]
    rw [run_store P w _ v _ (h1 v List.mem_cons_self), hc]
    simp only [hfz, Bool.false_eq_true, if_false, Result.andThen_ok]
    exact g1
   ·rw [g2]; simp [World.setCell]
   ·exact zD.trans ⟨rfl, rfl, rfl⟩ g3
   ·rw [g5]
    congr 2
    congr 1
    simp only [Array.toList_setIfInBounds, List.length_cons]
    have e1 : (arr.toList.set (off + i) v).take (off + (i + 1)) = arr.toList.take (off + i) ++ [v] := by
     have hlt' : off + i < arr.toList.length := by simpa using hlt
     rw [show off + (i + 1) = off + i + 1 by omega, List.take_add_one, List.take_set_of_le (Nat.le_refl _)]
     simp [hlt]
    have e2 : (arr.toList.set (off + i) v).drop (off + (i + 1) + vs.length) = arr.toList.drop (off + i + (vs.length + 1)) := by
     rw [List.drop_set_of_lt (by omega), show off + (i + 1) + vs.length = off + i + (vs.length + 1) by omega]
    rw [e1, e2]
    simp
 have := key vs 0 w arr hb hf (by simpa using hl) h1
 simpa using this
theorem zX (hC : jK P C) {t : TypeId} {i : TI} (hi : C.ti t = some i) {b off : Nat} {vs : List Value} (hc : qV w b off vs) (hl : vs.length = i.size)
  {x : Value} (hx : (i.isAgg = true /\ x = .agg vs.toArray) \/ (i.isAgg = false /\ vs = [x])) : (loadVar t ⟨b, off, none⟩).run P w = .ok x w := by
 have T := hC.ti t i hi
 unfold loadVar
 rw [Sem.run_bind, T.runAgg w, Result.andThen_ok]
 rcases hx with ⟨ha, rfl⟩ | ⟨ha, rfl⟩
 ·simp only [ha, if_true, Sem.run_bind, T.runSize w, Result.andThen_ok]
  rw [<- hl, qId hc]
  rfl
 ·simp only [ha, Bool.false_eq_true, if_false]
  have := hc 0 (by simp)
  simp only [Nat.add_zero, List.getElem_cons_zero] at this
  rw [run_load, this]
theorem qCD (hC : jK P C) {t : TypeId} {i : TI} (hi : C.ti t = some i) {b off : Nat} {v : Value} {arr : Array Value} {e : TypeId} {fr : Nat × Nat} (hb : w.heap[b]? = some (.cells arr e fr))
  (hf : qBq arr.size fr) (hs : v.cells.size = i.size) (hl : off + i.size <= arr.size) (h1 : ∀ u, u ∈ v.cells.toList -> u.oneCell' = true) : ∃ w', (storeVar t ⟨b, off, none⟩ v).run P w = .ok () w' /\
   w'.heap.size = w.heap.size /\ zD w w' /\ (∀ y, y ≠ b -> w'.heap[y]? = w.heap[y]?) /\
   w'.heap[b]? = some (.cells (arr.toList.take off ++ v.cells.toList ++ arr.toList.drop (off + i.size)).toArray e fr) := by
 obtain ⟨w', g1, g⟩ := wC (P := P) (w := w) (b := b) (off := off) (vs := v.cells.toList) hb hf (by simpa [hs] using hl) h1
 have hs' : v.cells.toList.length = i.size := by simpa using hs
 rw [hs'] at g
 refine ⟨w', ?_, g⟩
 unfold storeVar
 rw [Sem.run_bind, (hC.ti t i hi).runSize w, Result.andThen_ok]
 simp only [hs, ne_eq, not_true_eq_false, if_false]
 exact g1
end
section
variable {φ : Fix} {ρ : Env} {st : St} {a : Act} {w : World} {P : Program} {C : Ctx}
theorem qGq (hC : jK P C) {t : TypeId} {u : Ty} (h : qHC C t u = true) :
  (u = .bool /\ P.underlying t = some .bool) \/ (u = .str /\ P.underlying t = some .string) \/ (u = .int .u8 /\ P.underlying t = some (.int .u8)) := by
 unfold qHC at h
 cases hi : C.ti t with
 | none => simp [hi] at h
 | some i =>
  simp only [hi] at h
  split at h
  ·rename_i h1; exact .inl ⟨rfl, (hC.ti t i hi).tyBool h1⟩
  ·rename_i h1; exact .inr (.inl ⟨rfl, (hC.ti t i hi).tyStr h1⟩)
  ·rename_i h1; exact .inr (.inr ⟨rfl, (hC.ti t i hi).tyInt _ h1⟩)
  ·cases h
theorem qBb (hC : jK P C) {t : TypeId} (h : qHC C t .str = true) : P.underlying t = some .string := by
 rcases qGq hC h with ⟨h1, _⟩ | ⟨_, h2⟩ | ⟨h1, _⟩
 ·cases h1
 ·exact h2
 ·cases h1
theorem qJJ (hC : jK P C) {t : TypeId} (h : qHC C t .bool = true) : P.underlying t = some .bool := by
 rcases qGq hC h with ⟨_, h2⟩ | ⟨h1, _⟩ | ⟨h1, _⟩
 ·exact h2
 ·cases h1
 ·cases h1
theorem qEk (hC : jK P C) {t : TypeId} (h : qHC C t (.int .u8) = true) : P.underlying t = some (.int .u8) := by
 rcases qGq hC h with ⟨h1, _⟩ | ⟨h1, _⟩ | ⟨_, h2⟩
 ·cases h1
 ·cases h1
 ·exact h2
theorem qAH (hC : jK P C) {t : TypeId} {n : Nat} (h : qJ3 C t = some n) : ∃ e j, P.underlying t = some (.slice e) /\ C.ti e = some j /\ j.size = n := by
 unfold qJ3 at h
 cases hi : C.ti t with
 | none => simp [hi] at h
 | some i =>
  simp only [hi] at h
  cases he : i.elem with
  | none => simp [he] at h
  | some e =>
   simp only [he] at h
   cases hj : C.ti e with
   | none => simp [hj] at h
   | some j =>
    simp only [hj, Option.some.injEq] at h
    exact ⟨e, j, (hC.ti t i hi).elem e he, hj, h⟩
theorem qCG {op : BinOp} {t : TypeId} {x y : Operand} {u v : Value} (h : (∀ xs, u ≠ .agg xs) /\ u ≠ .nilIface) : (eqGuard op t x y u v).run P w = .ok () w := by
 obtain ⟨h1, h2⟩ := h
 have key : (match u, v with
  | .nilIface, .nilIface => (do
   if (x matches .const _) || (y matches .const _) then return
   if <- Op.eqGuardIn Op.maxDepth t u v then unsupported (.noEntry "binop/eql: two nil values of an interface type with methods, neither of them the literal nil") : Sem Unit)
  | .agg _, .agg _ => do
   if !(<- program).eqGuardType (<- program).depth t then return
   if <- Op.eqGuardIn Op.maxDepth t u v then unsupported (.noEntry "binop/eql: two nil values of an interface type with methods, in a part of a struct or an array")
  | _, _ => pure ()) = pure () := by
  cases u <;> first | rfl | exact absurd rfl h2 | exact absurd rfl (h1 _)
 unfold eqGuard
 cases op <;> first | rfl | (simp only [Bool.not_true, Bool.false_eq_true, if_false]; exact (congrArg (fun s => Sem.run P s w) key).trans rfl) | skip
theorem qAu {t : TypeId} (ht : P.underlying t = some .bool) (b b' : Bool) : (Op.equal t (.bool b) (.bool b')).run P w = .ok (b == b') w := by
 show (Op.equalIn (9999 + 1) t (.bool b) (.bool b')).run P w = _
 generalize 9999 = d
 unfold Op.equalIn
 rw [Sem.run_bind, run_underlying ht, Result.andThen_ok]
 rfl
theorem qKj {op : BinOp} {k : IntKind} {x y : Int} {v : CV} {t : TypeId} (h : qHS op k x y = some (true, v)) :
  ∃ r, (binOp op t (.int k x) (.int k y)).run P w = .ok r w /\ zQ ρ w v r := by
 cases op <;> simp only [qHS, Option.some.injEq, Prod.mk.injEq, reduceCtorEq, true_and] at h
 case quo =>
  obtain ⟨h0, rfl⟩ := h
  have h1 : ¬ y = 0 := by simpa using h0
  exact ⟨_, by simp only [binOp, Op.intDiv, ne_eq, not_true_eq_false, if_false, h1]; rfl, rfl⟩
 case rem =>
  obtain ⟨h0, rfl⟩ := h
  have h1 : ¬ y = 0 := by simpa using h0
  exact ⟨_, by simp only [binOp, Op.intDiv, ne_eq, not_true_eq_false, if_false, h1]; rfl, rfl⟩
 all_goals
  subst h
  exact ⟨_, by simp only [binOp, ne_eq, not_true_eq_false, if_false]; rfl, rfl⟩
theorem qC8 {op : BinOp} {k k' : IntKind} {x y : Int} {v : CV} {t : TypeId} (h : qCn op k x y = some (true, v)) :
  ∃ r, (binOp op t (.int k x) (.int k' y)).run P w = .ok r w /\ zQ ρ w v r := by
 cases op <;> simp only [qCn, Option.some.injEq, Prod.mk.injEq, reduceCtorEq] at h
 all_goals
  obtain ⟨h0, rfl⟩ := h
  have h1 : ¬ y < 0 := by
   have : 0 <= y := by simpa using h0
   omega
  refine ⟨_, ?_, rfl⟩
  simp only [binOp, Op.shift, h1, if_false]
  rfl
theorem qB3 (l : List UInt8) : (ByteArray.mk ⟨l⟩).toList = l := by
 have key : ∀ (k : Nat) (acc : List UInt8), ByteArray.toList.loop (ByteArray.mk ⟨l⟩) (l.length - k) acc = acc.reverse ++ l.drop (l.length - k) := by
  intro k
  induction k with
  | zero =>
   intro acc
   rw [ByteArray.toList.loop]
   simp [ByteArray.size]
  | succ k ih =>
   intro acc
   by_cases hk : k < l.length
   ·rw [ByteArray.toList.loop]
    have h1 : l.length - (k + 1) < (ByteArray.mk ⟨l⟩).size := by simp [ByteArray.size]; omega
    rw [if_pos h1, show l.length - (k + 1) + 1 = l.length - k by omega, ih]
    have h2 : l.length - (k + 1) < l.length := by omega
    rw [List.reverse_cons, List.append_assoc]
    congr 1
    rw [show l.drop (l.length - (k + 1)) = l[l.length - (k + 1)] :: l.drop (l.length - (k + 1) + 1) from List.drop_eq_getElem_cons h2, show l.length - (k + 1) + 1 = l.length - k by omega]
    simp [ByteArray.get!, h2]
   ·have e1 : l.length - (k + 1) = l.length - k := by omega
    rw [e1]; exact ih acc
 have := key l.length []
 simpa [ByteArray.toList] using this
theorem qKi {op : BinOp} {x y : List UInt8} {v : CV} {t : TypeId} (h : qHR op x y = some (true, v)) :
  ∃ r, (binOp op t (.string ⟨⟨x⟩⟩) (.string ⟨⟨y⟩⟩)).run P w = .ok r w /\ zQ ρ w v r := by
 have e1 := qB3 x
 have e2 := qB3 y
 cases op <;> simp only [qHR, Option.some.injEq, Prod.mk.injEq, reduceCtorEq, true_and] at h
 case add =>
  obtain ⟨h0, rfl⟩ := h
  refine ⟨.string ⟨⟨x ++ y⟩⟩, ?_, rfl⟩
  have h1 : x.length + y.length <= 9223372036854775807 := by simpa using h0
  have h2 : ¬ ((((ByteArray.mk ⟨x⟩).size + (ByteArray.mk ⟨y⟩).size : Nat) : Int) > IntKind.i64.max) := by
   have : IntKind.i64.max = 9223372036854775807 := by decide
   rw [this]; simp [ByteArray.size]; omega
  simp only [binOp, Op.stringOp, h2, if_false, Sem.run_pure]
  congr 2
 all_goals
  subst h
  refine ⟨_, ?_, rfl⟩
  simp only [binOp, Op.stringOp, e1, e2]
  rfl
theorem qFT (hC : jK P C) {op : BinOp} {t : TypeId} {x y : CV} {u v : Value} {r : CV} (hx : CVR ρ w x u) (hy : CVR ρ w y v) (he : qQA C t x = true) (h : qFU op x y = some (true, r)) {ox oy : Operand} :
  ∃ z, (do eqGuard op t ox oy u v; binOp op t u v : Sem Value).run P w = .ok z w /\ zQ ρ w r z := by
 have go : ((∀ xs, u ≠ .agg xs) /\ u ≠ .nilIface) -> (∃ z, (binOp op t u v).run P w = .ok z w /\ zQ ρ w r z) ->
   ∃ z, (do eqGuard op t ox oy u v; binOp op t u v : Sem Value).run P w = .ok z w /\ zQ ρ w r z := by
  rintro h1 ⟨z, h2, h3⟩
  exact ⟨z, by rw [Sem.run_bind, qCG h1, Result.andThen_ok, h2], h3⟩
 unfold qFU at h
 split at h
 ·rename_i k n k' n'
  rw [show u = .int k n from hx, show v = .int k' n' from hy]
  rw [show u = .int k n from hx, show v = .int k' n' from hy] at go
  apply go (by simp)
  split at h
  ·exact qC8 h
  ·exact qC8 h
  ·split at h
   ·rename_i hk; subst hk; exact qKj h
   ·cases h
 ·rename_i b b'
  rw [show u = .bool b from hx, show v = .bool b' from hy]
  rw [show u = .bool b from hx, show v = .bool b' from hy] at go
  apply go (by simp)
  have ht := qJJ hC he
  split at h
  ·simp only [Option.some.injEq, Prod.mk.injEq, true_and] at h
   subst h
   exact ⟨.bool (b == b'), by simp only [binOp, Sem.run_bind, qAu ht]; rfl, rfl⟩
  ·simp only [Option.some.injEq, Prod.mk.injEq, true_and] at h
   subst h
   exact ⟨.bool (!(b == b')), by simp only [binOp, Sem.run_bind, qAu ht]; rfl, rfl⟩
  ·cases h
 ·rename_i s s'
  rw [show u = .string ⟨⟨s⟩⟩ from hx, show v = .string ⟨⟨s'⟩⟩ from hy]
  rw [show u = .string ⟨⟨s⟩⟩ from hx, show v = .string ⟨⟨s'⟩⟩ from hy] at go
  exact go (by simp) (qKi h)
 ·cases h
def qQB : TypeDesc -> Bool
 | .struct _ => true
 | .array _ _ => true
 | _ => false
theorem qAZ {t : TypeId} {d : TypeDesc} (h : P.underlying t = some d) (hd : qQB d = false) {arr : Array Value} {k : Nat} {v : Value} (hx : arr[k]? = some v) (w : World) : (part t arr k).run P w = .ok v w := by
 have ha : (isAgg t).run P w = .ok false w := by
  unfold isAgg
  rw [Sem.run_bind, run_underlying h w, Result.andThen_ok]
  cases d <;> first | rfl | cases hd
 unfold part
 rw [Sem.run_bind, ha, Result.andThen_ok]
 simp only [Bool.false_eq_true, if_false]
 rw [hx]; rfl
theorem qJS {q : IntKind} {o : Option TypeDesc} (h : qCX (.int q) o = true) : ∃ q', o = some (.int q') := by
 cases o with
 | none => simp [qCX] at h
 | some d => cases d <;> first | exact ⟨_, rfl⟩ | (simp [qCX] at h; done)
theorem qIo {o : Option TypeDesc} (h : qCX .bool o = true) : o = some .bool := by
 cases o with
 | none => simp [qCX] at h
 | some d => cases d <;> first | rfl | (simp [qCX] at h; done)
theorem qJR {o : Option TypeDesc} (h : qCX .str o = true) : o = some .string := by
 cases o with
 | none => simp [qCX] at h
 | some d => cases d <;> first | rfl | (simp [qCX] at h; done)
theorem qMU {u : Ty} {t : TypeId} (hu : qCX u (P.underlying t) = true) {x y : CV} {b : Bool} (he : eqC u x y = some b) {v v' : Value} (hx : CVR ρ w x v) (hy : CVR ρ w y v') (d : Nat) (w' : World) :
  (∃ ds, P.underlying t = some ds /\ qQB ds = false) /\ (Op.equalIn (d + 1) t v v').run P w' = .ok b w' := by
 unfold eqC at he
 split at he
 ·split at he
  ·rename_i k a k' b' hk
   subst hk
   simp only [Option.some.injEq] at he; subst he
   rw [show v = .int k a from hx, show v' = .int k b' from hy]
   obtain ⟨q', hd⟩ := qJS hu
   exact ⟨⟨_, hd, rfl⟩, run_equalIn_int w' d t _ _ _ _ hd⟩
  ·cases he
 ·simp only [Option.some.injEq] at he; subst he
  rename_i a b'
  rw [show v = .bool a from hx, show v' = .bool b' from hy]
  have hd := qIo hu
  exact ⟨⟨_, hd, rfl⟩, run_equalIn_bool' w' d t _ _ hd⟩
 ·simp only [Option.some.injEq] at he; subst he
  rename_i a b'
  rw [show v = .string ⟨⟨a⟩⟩ from hx, show v' = .string ⟨⟨b'⟩⟩ from hy]
  have hd := qJR hu
  refine ⟨⟨_, hd, rfl⟩, ?_⟩
  rw [run_equalIn_string w' d t _ _ hd, ByteArray.toList_eq, ByteArray.toList_eq]
 ·cases he
theorem qB0 (d : Nat) (w' : World) {vx vy : Array Value} : ∀ {us : List Ty} {k : Nat} {fs : List Field} {xs ys : List CV} {b : Bool}, eqB P k fs us = true -> yJ us xs ys = some b ->
  jC (CVR ρ w) xs (vx.toList.drop k) -> jC (CVR ρ w) ys (vy.toList.drop k) -> (Op.eqFields (d + 1) vx vy fs).run P w' = .ok b w'
 | [], _, _, _, _, _, _, he, _, _ => by simp [yJ] at he
 | _ :: _, _, _, [], _, _, _, he, _, _ => by simp [yJ] at he
 | _ :: _, _, _, _ :: _, [], _, _, he, _, _ => by simp [yJ] at he
 | _ :: _, _, [], _ :: _, _ :: _, _, hb, _, _, _ => by simp [eqB] at hb
 | u :: us, k, f :: fs, x :: xs, y :: ys, b, hb, he, hx, hy => by
  simp only [eqB, Bool.and_eq_true, bne_iff_ne, beq_iff_eq] at hb
  obtain ⟨⟨⟨h1, h2⟩, h3⟩, h4⟩ := hb
  have get : ∀ {arr : Array Value} {c : CV} {cs : List CV}, jC (CVR ρ w) (c :: cs) (arr.toList.drop k) -> ∃ v, arr[k]? = some v /\ CVR ρ w c v /\ jC (CVR ρ w) cs (arr.toList.drop (k + 1)) := fun {arr c cs} h => by
   obtain ⟨v, hv, hc⟩ := h.get (i := 0) rfl
   rw [List.getElem?_drop] at hv
   have ht : jC (CVR ρ w) cs (arr.toList.drop (k + 1)) := by
    rw [<- List.drop_drop]
    cases hd : arr.toList.drop k with
    | nil => rw [hd] at h; exact h.elim
    | cons z zs => rw [hd] at h; exact h.2
   exact ⟨v, by simpa using hv, hc, ht⟩
  obtain ⟨v, g1, g2, g3⟩ := get hx
  obtain ⟨v', g1', g2', g3'⟩ := get hy
  have one : ∀ {b1 : Bool}, eqC u x y = some b1 -> (Op.eqFields (d + 1) vx vy (f :: fs)).run P w' = (if (!b1) = true then (.ok false w') else (Op.eqFields (d + 1) vx vy fs).run P w') := fun {b1} hb1 => by
   obtain ⟨⟨ds, e1, e2⟩, e3⟩ := qMU h3 hb1 g2 g2' d w'
   rw [Op.eqFields, if_pos h1, Sem.run_bind, h2, qAZ e1 e2 g1, Result.andThen_ok, Sem.run_bind, qAZ e1 e2 g1', Result.andThen_ok, Sem.run_bind, e3, Result.andThen_ok, Sem.run_ite]
   rfl
  cases us with
  | nil =>
   simp only [yJ] at he
   split at he
   ·rw [one he]
    cases fs with
    | nil => cases b <;> rfl
    | cons _ _ => simp [eqB] at h4
   ·cases he
  | cons u2 us =>
   simp only [yJ] at he
   split at he
   ·rename_i a b2 ha hb2
    simp only [Option.some.injEq] at he; subst he
    rw [one ha, qB0 d w' h4 hb2 g3 g3']
    cases a <;> rfl
   ·cases he
theorem qDL (hC : jK P C) {t : TypeId} {i : TI} (ht : C.ti t = some i) {xs ys : List CV} {b : Bool} (he : yJ i.eqc xs ys = some b) {u v : Value} (hx : SVR ρ w (.agg xs) u) (hy : SVR ρ w (.agg ys) v) {ox oy : Operand} (w' : World) :
  (do eqGuard .eql t ox oy u v; binOp .eql t u v : Sem Value).run P w' = .ok (.bool b) w' /\ (do eqGuard .neq t ox oy u v; binOp .neq t u v : Sem Value).run P w' = .ok (.bool (!b)) w' := by
 obtain ⟨vx, rfl, ax⟩ := hx
 obtain ⟨vy, rfl, ay⟩ := hy
 have hne : i.eqc ≠ [] := fun h => by rw [h] at he; simp [yJ] at he
 obtain ⟨k1, k2, fs, k3, k4⟩ := (hC.ti t i ht).eqs hne
 have hf : P.fieldsOf t = fs := by unfold Program.fieldsOf; rw [k3]
 have run : (Op.equalIn 10000 t (.agg vx) (.agg vy)).run P w' = .ok b w' := by
  rw [show (10000 : Nat) = 9998 + 1 + 1 from rfl, run_equalIn_struct w' (9998 + 1) t vx vy (by rw [hf]; exact k3) k1, hf]
  exact qB0 9998 w' k4 he (by rw [List.drop_zero]; exact ax) (by rw [List.drop_zero]; exact ay)
 constructor
 ·rw [Sem.run_bind, run_eqGuard_agg w' .eql t ox oy vx vy k2, Result.andThen_ok, run_eql_struct, run]; rfl
 ·rw [Sem.run_bind, run_eqGuard_agg w' .neq t ox oy vx vy k2, Result.andThen_ok, run_neq_struct, run]; rfl
theorem qGZ {op : UnOp} {x : CV} {u : Value} {r : CV} (hx : CVR ρ w x u) (h : qIP op x = some r) : ∃ z, (Op.unary op u).run P w = .ok z w /\ zQ ρ w r z := by
 unfold qIP at h
 split at h
 ·rename_i k n
  rw [show u = .int k n from hx]
  split at h
  ·simp only [Option.some.injEq] at h; subst h; exact ⟨_, rfl, rfl⟩
  ·simp only [Option.some.injEq] at h; subst h; exact ⟨_, rfl, rfl⟩
  ·cases h
 ·rename_i b
  rw [show u = .bool b from hx]
  split at h
  ·simp only [Option.some.injEq] at h; subst h; exact ⟨_, rfl, rfl⟩
  ·cases h
 ·cases h
end
section
variable {φ : Fix} {ρ : Env} {st : St} {a : Act} {w : World} {P : Program} {C : Ctx}
theorem Rep.rowVal (h : Rep φ ρ st a w) {d : Nat} {r : Row} (hd : qL d st.rows = some r) (hnm : r.isMap = false) :
  ∃ b c, ρ.val d = .slice b r.l.length c /\ r.l.length <= c /\ (r.l ≠ [] -> ∃ k, b = some ⟨k, 0, none⟩) := by
 obtain ⟨b, c, e1, e2⟩ : ∃ b c, ρ.val d = .slice b r.l.length c /\ r.l.length <= c := by
  cases h0 : r.hole with
  | none => obtain ⟨b, c, e1, e2, _⟩ := h.rowRd hd h0; exact ⟨b, c, e1, e2⟩
  | some q =>
   have ho := (h.rows d r hd).2.2.1
   unfold zJ at ho
   rw [h0] at ho
   rcases ho with ⟨hi, _⟩ | ⟨_, M, _, b', c, _, _, e1, _, _, _, e2, _⟩ | ⟨_, M, _, A, c, e1, e2, _⟩
   ·unfold Row.isMap at hnm; rw [h0] at hnm; exact absurd hi (by simpa using hnm)
   ·exact ⟨_, c, e1, e2⟩
   ·exact ⟨_, c, e1, e2⟩
 refine ⟨b, c, e1, e2, fun hl => ?_⟩
 obtain ⟨k, n, c', e3⟩ := (h.rows d r hd).2.2.2 hl
 rw [xP, e1] at e3
 simp only [Value.slice.injEq] at e3
 exact ⟨k, e3.1⟩
theorem qE6 {F : Nat -> Prop} {w : World} : ∀ {t : Ty} {n : Nat} {x : t.T} {off : Nat} {e : TypeId} {u : Ty} {l : List u.T} {B : Nat -> Prop} {vs : List Value}, t.slAt x off = some ⟨e, u, l⟩ -> qJ F w t n x B vs ->
  ∃ v B', vs[off]? = some v /\ (∀ y, B' y -> B y) /\ qJ F w (.sl e u) n l B' [v] := by
 intro t
 induction t with
 | prod a b iha ihb =>
  intro n x off e u l B vs h hr
  rw [qJ] at hr
  obtain ⟨v1, v2, B1, B2, rfl, d1, d2, h1, h2⟩ := hr
  have hl := jB h1
  simp only [Ty.slAt] at h
  split at h
  ·obtain ⟨v, B', hv, g1, g2⟩ := iha h h1
   exact ⟨v, B', by rw [List.getElem?_append_left (by omega)]; exact hv, fun y hy => (d1 y (g1 y hy)).1, g2⟩
  ·obtain ⟨v, B', hv, g1, g2⟩ := ihb h h2
   exact ⟨v, B', by rw [List.getElem?_append_right (by omega), hl]; exact hv, fun y hy => d2 y (g1 y hy), g2⟩
 | sl e t iht =>
  intro n x off e' u l B vs h hr
  simp only [Ty.slAt] at h
  split at h
  ·rename_i h0
   simp only [Option.some.injEq, Sigma.mk.injEq] at h
   obtain ⟨rfl, h⟩ := h
   obtain ⟨rfl, h⟩ := (Sigma.mk.injEq ..).mp (eq_of_heq h)
   obtain rfl := eq_of_heq h
   have hlen := jB hr
   obtain ⟨v, rfl⟩ : ∃ v, vs = [v] := by
    match vs, hlen with
    | [v], _ => exact ⟨v, rfl⟩
   exact ⟨v, B, by subst h0; rfl, fun _ h => h, hr⟩
  ·cases h
 | _ => intro n x off e u l B vs h; simp [Ty.slAt] at h
theorem Rep.rowElt (h : Rep φ ρ st a w) {d : Nat} {r : Row} (hd : qL d st.rows = some r) (h0 : r.hole = none) {m : Nat} (hm : r.m = m + 1) {b n c i : Nat}
  (hl : xP (ρ.val d) b n c) (hi : i < n) : ∃ hi' : i < r.l.length, ∃ cs B', qV w b (i * r.t.sz) cs /\ ρ.ft d b /\ (∀ y, B' y -> ρ.ft d y /\ y ≠ b) /\ qJ ρ.F w r.t m r.l[i] B' cs := by
 have ho := zJ.whole h0 (h.rows d r hd).2.2.1
 rw [hm, qJ] at ho
 obtain ⟨v, e1, a', c', e2, hh⟩ := ho
 simp only [List.cons.injEq, and_true] at e1
 rw [<- e1, hl] at e2
 simp only [Value.slice.injEq] at e2
 obtain ⟨rfl, rfl, rfl⟩ := e2
 rcases hh with ⟨h0, _⟩ | ⟨b', arr, fr, e3, g1, g2, g3, g4, g5, Bs, g6, g7, g8⟩
 ·rw [h0] at hi; simp at hi
 ·simp only [Option.some.injEq, Addr.mk.injEq] at e3
  obtain ⟨rfl, _⟩ := e3
  obtain ⟨cs, k1, k2⟩ := g8 i hi
  exact ⟨hi, cs, Bs i, k1, g5, fun y hy => g6 i y hi hy, k2⟩
theorem Rep.rowRd2 (h : Rep φ ρ st a w) {d : Nat} {r : Row} (hd : qL d st.rows = some r) (hh0 : r.hole = none) (hm : r.m <= 1) {b n c i : Nat}
  (hl : xP (ρ.val d) b n c) (hi : i < n) : ∃ hi' : i < r.l.length, ∃ cs, qV w b (i * r.t.sz) cs /\ Rd ρ.F w r.t r.l[i] cs := by
 rcases Nat.eq_zero_or_pos r.m with h0 | h0
 ·have ho := zJ.whole hh0 (h.rows d r hd).2.2.1
  rw [h0, qJ, kB] at ho
  obtain ⟨v, e1, a', c', e2, hc, g⟩ := ho
  simp only [List.cons.injEq, and_true] at e1
  rw [<- e1, hl] at e2
  simp only [Value.slice.injEq] at e2
  obtain ⟨rfl, rfl, rfl⟩ := e2
  obtain ⟨b', off, cs, e3, g1, g2, g3⟩ := g i hi
  simp only [Option.some.injEq, Addr.mk.injEq] at e3
  obtain ⟨rfl, rfl, _⟩ := e3
  exact ⟨hi, cs, by simpa using g2, g3⟩
 ·obtain ⟨hi', cs, B', g1, _, _, g2⟩ := h.rowElt hd hh0 (m := 0) (by omega) hl hi
  exact ⟨hi', cs, g1, qDf g2⟩
theorem qA0 {t e : TypeId} {k : IntKind} {n : Int} {b off len cap sz : Nat} (hu : P.underlying t = some (.slice e)) (hs : (sizeOf e).run P w = .ok sz w) (h0 : 0 <= n) (h1 : n < (len : Int)) :
  (Instr.indexAt t (.slice (some ⟨b, off, none⟩) len cap) (.int k n)).run P w = .ok (.pointer (some ⟨b, off + n.toNat * sz, none⟩)) w := by
 simp [Instr.indexAt, asIntOf, run_underlying hu, hs, h0, h1, vA]
theorem xS (hC : jK P C) {t : TypeId} {x : CV} (hx : ∀ s, x ≠ .str s) (h : qKQ C st t x = true) :
  ∃ e j s, P.underlying t = some (.slice e) /\ (∀ w, (sizeOf e).run P w = .ok j w) /\ xL st x = some s /\ j = s.2.1.sz := by
 have h' : (match qJ3 C t, x.slTy st with
  | some n, some (_, u) => decide (n = u.sz)
  | _, _ => false) = true := by
  unfold qKQ at h
  split at h
  ·exact absurd rfl (hx _)
  ·exact h
 split at h'
 ·rename_i n e u h1 h2
  obtain ⟨e', j, g1, g2, rfl⟩ := qAH hC h1
  unfold CV.slTy at h2
  split at h2
  ·rename_i e2 t2 l2 hs
   simp only [Option.some.injEq, Prod.mk.injEq] at h2
   obtain ⟨rfl, rfl⟩ := h2
   exact ⟨e', j.size, ⟨e2, t2, l2⟩, g1, fun w => (hC.ti e' j g2).runSize w, hs, by simpa using h'⟩
  ·cases h2
 ·cases h'
theorem qMJ (hC : jK P C) (h : Rep φ ρ st a w) {t : TypeId} {x p : CV} {k : IntKind} {n : Int} {u : Value} (hx : CVR ρ w x u) (hk : qMt C st t x = true) (hv : qNf st x n = some (true, p)) :
  ∃ z, (Instr.indexAt t u (.int k n)).run P w = .ok z w /\ zQ ρ w p z := by
 have nb : ∀ {len : Nat} {q : CV}, some (decide (0 <= n) && decide (n < (len : Int)), q) = some (true, p) -> 0 <= n /\ n < (len : Int) /\ n.toNat < len /\ q = p := fun {len q} hh => by
  simp only [Option.some.injEq, Prod.mk.injEq, Bool.and_eq_true, decide_eq_true_eq] at hh
  exact ⟨hh.1.1, hh.1.2, by omega, hh.2⟩
 cases x with
 | dat e' t' l =>
  have hk : qKQ C st t (.dat e' t' l) = true := hk
  obtain ⟨e, j, s, hu, hs, hr, hj⟩ := xS hC (by intro s; exact CV.noConfusion) hk
  simp only [xL, Option.some.injEq] at hr; subst hr
  obtain ⟨h0, h1, h2, rfl⟩ := nb hv
  obtain ⟨b, c, rfl, _, g⟩ := (hx : zQ ρ w (.dat e' t' l) u)
  obtain ⟨k', off, cs, rfl, g1, g2, g3⟩ := g _ h2
  refine ⟨_, qA0 hu (hs w) h0 h1, k', off + n.toNat * t'.sz, cs, by rw [hj]; rfl, g1, g2, ?_⟩
  rw [wQ h2]; exact g3
 | own d =>
  simp only [qMt] at hk
  split at hk
  ·rename_i nn r h1 hrow
   obtain ⟨e, j, hu, g2, rfl⟩ := qAH hC h1
   have hs : ∀ w, (sizeOf e).run P w = .ok j.size w := fun w => (hC.ti e j g2).runSize w
   have hj : j.size = r.t.sz := by simpa using hk
   simp only [qNf, hrow] at hv
   split at hv
   ·cases hv
   rename_i hnm
   obtain ⟨h0, h1, h2, rfl⟩ := nb hv
   obtain ⟨b, c, e1, _, e2⟩ := h.rowVal hrow (by simpa using hnm)
   obtain ⟨k', rfl⟩ := e2 (by intro hh; rw [hh] at h2; simp at h2)
   rw [show u = ρ.val d from hx.1, e1]
   refine ⟨_, qA0 hu (hs w) h0 h1, k', r.l.length, c, e1, h2, ?_⟩
   rw [hj, (h.rows d r hrow).2.1]; simp
  ·cases hk
 | vw d lo hi =>
  have hk : qKQ C st t (.vw d lo hi) = true := hk
  obtain ⟨e, j, s, hu, hs, hr, hj⟩ := xS hC (by intro s; exact CV.noConfusion) hk
  simp only [xL] at hr
  split at hr
  ·rename_i r hrow
   simp only [Option.some.injEq] at hr; subst hr
   simp only [qNf, hrow, Option.some.injEq, Prod.mk.injEq, Bool.and_eq_true, decide_eq_true_eq] at hv
   obtain ⟨⟨⟨h0, h1⟩, h2⟩, rfl⟩ := hv
   obtain ⟨b, c, e1, _, e2⟩ := h.rowVal (qM hrow) (qCf hrow)
   obtain ⟨b1, n1, c1, b2, g1, g2, g3, g4, rfl, g5⟩ := (hx : zQ ρ w (.vw d lo hi) u)
   rw [e1] at g1
   simp only [Value.slice.injEq] at g1
   obtain ⟨rfl, rfl, rfl⟩ := g1
   obtain ⟨k', rfl⟩ := e2 (by intro hh; rw [hh] at h2; simp at h2; omega)
   have g6 := g5 (by omega)
   simp only [Option.map_some, vA, Nat.zero_add] at g6
   subst g6
   refine ⟨_, qA0 hu (hs w) h0 h1, k', r.l.length, c, e1, by omega, ?_⟩
   rw [hj, (h.rows d r (qM hrow)).2.1]
   simp [Nat.add_mul]
  ·cases hr
 | nref d i off =>
  have hk : qKQ C st t (.nref d i off) = true := hk
  obtain ⟨e, j, s, hu, hs, hr, hj⟩ := xS hC (by intro s; exact CV.noConfusion) hk
  have hr0 := hr
  simp only [xL] at hr
  split at hr
  ·rename_i r hrow
   have hd := qM hrow
   simp only [qNf, hr0, hd] at hv
   split at hv
   ·cases hv
   ·rename_i hm
    obtain ⟨h0, h1, h2, rfl⟩ := nb hv
    obtain ⟨⟨ho, b, n1, c1, e1, hi, e2⟩, _⟩ := (hx : zQ ρ w (.nref d i off) u)
    obtain ⟨m, hm'⟩ : ∃ m, r.m = m + 2 := ⟨r.m - 2, by omega⟩
    obtain ⟨hi', cs, B', k1, k2, k3, k4⟩ := h.rowElt hd (qN hrow) (m := m + 1) (by omega) e1 hi
    rw [wQ hi'] at hr
    obtain ⟨e3, u3, l3⟩ := s
    obtain ⟨v, B'', q1, q2, q3⟩ := qE6 hr k4
    obtain ⟨hlt, q1⟩ := List.getElem?_eq_some_iff.1 q1
    have q4 := k1 off hlt
    rw [q1] at q4
    rw [(h.rows d r hd).2.1, q4] at e2
    simp only [Option.some.injEq] at e2
    subst e2
    obtain ⟨b', n', c', q5⟩ := vD q3 (by omega) (by intro hh; rw [show l3 = [] from hh] at h2; simp at h2)
    obtain ⟨v', q6, a6, c6, q7, _⟩ := (by rw [qJ] at q3; exact q3 : ∃ v', [v] = [v'] /\ qHZ w e3 u3.sz _ B'' l3 v')
    simp only [List.cons.injEq, and_true] at q6
    subst q6
    rw [q5] at q7
    simp only [Value.slice.injEq] at q7
    obtain ⟨_, rfl, _⟩ := q7
    rw [q5] at q4 ⊢
    refine ⟨_, qA0 hu (hs w) h0 h1, ho, b, n1, c1, e3, u3, b', l3.length, c', e1, hi, ?_, ?_, h2, ?_⟩
    ·rw [(h.rows d r hd).2.1]; exact qAT hr
    ·rw [(h.rows d r hd).2.1]; exact q4
    ·rw [hj]; simp
  ·cases hr
 | _ => simp [qNf] at hv
end
section
variable {φ : Fix} {ρ : Env} {st : St} {a : Act} {w : World} {P : Program} {C : Ctx}
theorem qF4 {t : Ty} : ∀ {x : t.T} {vs : List Value}, Rd ρ.F w t x vs -> jC (zQ ρ w) (t.cells x) vs := by
 induction t with
 | int k => intro x vs h; rw [Rd] at h; subst h; exact ⟨rfl, trivial⟩
 | bool => intro x vs h; rw [Rd] at h; subst h; exact ⟨rfl, trivial⟩
 | str => intro x vs h; rw [Rd] at h; subst h; exact ⟨rfl, trivial⟩
 | unit => intro x vs h; rw [Rd] at h; subst h; exact trivial
 | prod a b iha ihb =>
  intro x vs h
  rw [Rd] at h
  obtain ⟨v1, v2, rfl, h1, h2⟩ := h
  exact (iha h1).append (ihb h2)
 | ptr e t _ =>
  intro x vs h
  rw [Rd] at h
  obtain ⟨b, off, cs, rfl, h1, h2, h3⟩ := h
  exact ⟨⟨b, off, cs, rfl, h1, h2, h3⟩, trivial⟩
 | sl e t _ =>
  intro x vs h
  rw [kB] at h
  obtain ⟨v, rfl, h⟩ := h
  exact ⟨h, trivial⟩
def Env.turnOn (ρ : Env) (d : Nat) : Env := { ρ with on := fun e => e = d \/ ρ.on e }
theorem Env.turnOn_le (ρ : Env) (d : Nat) : ρ.Le (ρ.turnOn d) := ⟨fun _ h => h, fun _ h => .inr h, rfl, rfl, rfl⟩
theorem Rep.turnOn (h : Rep φ ρ st a w) {d : Nat} {r : Row} (hd : qL d st.rows = some r) : Rep φ (ρ.turnOn d) st a w :=
 { h with
  on := fun e he => by
   rcases he with rfl | he
   ·exact ⟨r, hd⟩
   ·exact h.on e he
  slots := fun s v hs => ⟨(h.slots s v hs).1, qDT (ρ.turnOn_le d) (h.slots s v hs).2⟩
  boxes := fun b x hx => by obtain ⟨arr, fr, h1, h2, h3⟩ := h.boxes b x hx; exact ⟨arr, fr, h1, h2, h3.imp fun _ _ => qBo (ρ.turnOn_le d)⟩
  rows := h.rows, rsep := h.rsep, rF := h.rF, rb := h.rb, bsep := h.bsep, bF := h.bF, Fbd := h.Fbd, F0 := h.F0, lentR := h.lentR, lentB := h.lentB }
theorem qV.part {b off : Nat} {vs : List Value} (h : qV w b off vs) (k n : Nat) : qV w b (off + k) ((vs.drop k).take n) := by
 intro j hj
 simp only [List.length_take, List.length_drop] at hj
 have := h (k + j) (by omega)
 rw [Nat.add_assoc]
 simpa using this
theorem yX {R : CV -> Value -> Prop} {cs : List CV} {vs : List Value} (h : jC R cs vs) (off n : Nat) : jC R (qEV off n cs) ((vs.drop off).take n) := (h.drop off).take n
def Nst (ρ : Env) (w : World) (c : CV) (v : Value) : Prop := match c with
 | .dat _ _ _ => v.oneCell' = true
 | c => zQ ρ w c v
theorem qKA {t : Ty} : ∀ {n : Nat} {x : t.T} {B : Nat -> Prop} {vs : List Value}, qJ ρ.F w t n x B vs -> jC (Nst ρ w) (t.cells x) vs := by
 induction t with
 | int k => intro n x B vs h; rw [qJ] at h; subst h; exact ⟨rfl, trivial⟩
 | bool => intro n x B vs h; rw [qJ] at h; subst h; exact ⟨rfl, trivial⟩
 | str => intro n x B vs h; rw [qJ] at h; subst h; exact ⟨rfl, trivial⟩
 | unit => intro n x B vs h; rw [qJ] at h; subst h; exact trivial
 | prod a b iha ihb =>
  intro n x B vs h
  rw [qJ] at h
  obtain ⟨v1, v2, B1, B2, rfl, _, _, h1, h2⟩ := h
  exact (iha h1).append (ihb h2)
 | ptr e t _ =>
  intro n x B vs h
  rw [qJ, Rd] at h
  obtain ⟨b, off, cs, rfl, h1, h2, h3⟩ := h
  exact ⟨⟨b, off, cs, rfl, h1, h2, h3⟩, trivial⟩
 | sl e t _ =>
  intro n x B vs h
  cases n with
  | zero =>
   rw [qJ, kB] at h
   obtain ⟨v, rfl, _, _, rfl, _⟩ := h
   exact ⟨rfl, trivial⟩
  | succ n =>
   rw [qJ] at h
   obtain ⟨v, rfl, _, _, rfl, _⟩ := h
   exact ⟨rfl, trivial⟩
theorem qBT {d i : Nat} {b n c : Nat} (hl : xP (ρ.val d) b n c) (hi : i < n) (ho : ρ.on d) : ∀ {k : Nat} {cs : List CV} {vs : List Value}, jC (Nst ρ w) cs vs -> qV w b (i * (ρ.ty d).sz + k) vs ->
  jC (zQ ρ w) (qA4 d i k cs) vs
 | k, [], [], _, _ => trivial
 | k, x :: xs, v :: vs, h, hc => by
  have hc' : qV w b (i * (ρ.ty d).sz + (k + 1)) vs := fun j hj => by
   have := hc (j + 1) (by simpa using hj)
   rw [show i * (ρ.ty d).sz + (k + 1) + j = i * (ρ.ty d).sz + k + (j + 1) by omega]
   simpa using this
  have ih := qBT hl hi ho h.2 hc'
  cases x with
  | dat e t l =>
   refine ⟨⟨⟨ho, b, n, c, hl, hi, ?_⟩, trivial, h.1⟩, ih⟩
   have := hc 0 (by simp)
   simpa using this
  | _ => exact ⟨h.1, ih⟩
theorem qDD (hC : jK P C) (h : Rep φ ρ st a w) {t : TypeId} {p : CV} {u : Value} {v : SV} (hp : CVR ρ w p u) (hv : qCa C st t p = some v) : Ans P φ (Instr.loadAt t u) a w st v /\ ∃ x, ∀ w1, jO w w1 -> (Instr.loadAt t u).run P w1 = .ok x w1 := by
 have fin : ∀ {ρ' : Env} {b off : Nat} {cs : List CV} {vs : List Value}, Rep φ ρ' st a w -> u = .pointer (some ⟨b, off, none⟩) -> mkV C t cs = some v -> jC (CVR ρ' w) cs vs -> qV w b off vs -> Ans P φ (Instr.loadAt t u) a w st v /\ ∃ x, ∀ w1, jO w w1 -> (Instr.loadAt t u).run P w1 = .ok x w1 := by
  intro ρ' b off cs vs h' hu hm ha hc
  obtain ⟨i, hi, hlen, hh⟩ := qHm hC hm ha
  have hg : ∀ w1, jO w w1 -> qV w1 b off vs := fun w1 g => (g.agree (fun _ => True)).cellsAt trivial hc
  rcases hh with ⟨hagg, hs⟩ | ⟨hagg, x, rfl, hs⟩
  ·have run : ∀ w1, qV w1 b off vs -> (Instr.loadAt t u).run P w1 = .ok (.agg vs.toArray) w1 := fun w1 hc1 => by
    rw [hu]
    simp only [Instr.loadAt, Instr.sureAddr, Sem.run_bind, Sem.run_pure, Result.andThen_ok]
    exact zX hC hi hc1 hlen (.inl ⟨hagg, rfl⟩)
   exact ⟨Ans.pure h' (run w hc) hs, _, fun w1 g => run w1 (hg w1 g)⟩
  ·have run : ∀ w1, qV w1 b off [x] -> (Instr.loadAt t u).run P w1 = .ok x w1 := fun w1 hc1 => by
    rw [hu]
    simp only [Instr.loadAt, Instr.sureAddr, Sem.run_bind, Sem.run_pure, Result.andThen_ok]
    exact zX hC hi hc1 hlen (.inr ⟨hagg, rfl⟩)
   exact ⟨Ans.pure h' (run w hc) hs, _, fun w1 g => run w1 (hg w1 g)⟩
 have up : ∀ {ρ' : Env} {cs : List CV} {vs : List Value}, jC (zQ ρ' w) cs vs -> jC (CVR ρ' w) cs vs := fun hh => hh.imp fun _ _ => zL
 cases p with
 | pbox b off =>
  simp only [qCa] at hv
  split at hv
  ·rename_i x hx
   split at hv
   ·rename_i g n hn
    obtain ⟨arr, fr, h1, h2, h3⟩ := h.cellsBox hx
    have hc : qV w (ρ.blk b) 0 arr.toList := fun j hj => jV.2 ⟨arr, _, fr, h1, by simp at hj ⊢⟩
    exact fin h (b := ρ.blk b) (off := off) hp hv (yX h3 off n) (by simpa using hc.part off n)
   ·cases hv
  ·cases hv
 | pelt d i off =>
  simp only [qCa] at hv
  split at hv
  ·rename_i r hrow
   have hd := qM hrow
   split at hv
   ·rename_i g n hn
    obtain ⟨b, n', c', e1, hi, e2⟩ := (hp : zQ ρ w (.pelt d i off) u)
    have hty : (ρ.ty d) = r.t := (h.rows d r hd).2.1
    rw [hty] at e2
    by_cases hm : r.m <= 1
    ·rw [if_pos hm] at hv
     obtain ⟨hi', cs, g1, g2⟩ := h.rowRd2 hd (qN hrow) hm e1 hi
     rw [wQ hi'] at hv
     exact fin h e2 hv (yX (up (qF4 g2)) off n) (g1.part off n)
    ·rw [if_neg hm] at hv
     have h' := h.turnOn hd
     obtain ⟨m, hm'⟩ : ∃ m, r.m = m + 1 := ⟨r.m - 1, by omega⟩
     obtain ⟨hi', cs, B', g1, _, _, g2⟩ := h'.rowElt hd (qN hrow) hm' e1 hi
     rw [wQ hi'] at hv
     have e3 : (ρ.turnOn d).ty d = r.t := hty
     exact fin h' e2 hv (yX (up (qBT (ρ := ρ.turnOn d) e1 hi (.inl rfl) (qKA g2) (by rw [e3]; simpa using g1))) off n) (g1.part off n)
   ·cases hv
  ·cases hv
 | pdat e ut x off =>
  simp only [qCa] at hv
  split at hv
  ·rename_i g n hn
   obtain ⟨b, o, cs, e1, g1, g2, g3⟩ := (hp : zQ ρ w (.pdat e ut x off) u)
   exact fin h e1 hv (yX (up (qF4 g3)) off n) (g2.part off n)
  ·cases hv
 | pn d i off j off2 =>
  simp only [qCa] at hv
  split at hv
  ·rename_i s hs
   split at hv
   ·cases hv
   ·rename_i href
    split at hv
    ·rename_i g n hn
     obtain ⟨ho, b, n', c', e, u', b', n2, c2, e1, hi, e2, e3, hj, e4⟩ := (hp : zQ ρ w (.pn d i off j off2) u)
     have := wW h hs (show zQ ρ w (.nref d i off) _ from ⟨⟨ho, b, n', c', e1, hi, e3⟩, trivial, rfl⟩)
     have hty : s.2.1 = u' := by
      simp only [xL] at hs
      split at hs
      ·rename_i r hrow
       have := qAT hs
       rw [<- (h.rows d r (qM hrow)).2.1, e2] at this
       simp only [Option.some.injEq, Prod.mk.injEq] at this
       exact this.2.symm
      ·cases hs
     obtain ⟨e5, t5, l5⟩ := s
     simp only at hty this href hv
     subst hty
     obtain ⟨a6, c6, e6, _, g⟩ := this
     simp only [Value.slice.injEq] at e6
     obtain ⟨rfl, rfl, rfl⟩ := e6
     obtain ⟨b7, o7, cs, e7, g1, g2, g3⟩ := g j hj
     simp only [Option.some.injEq, Addr.mk.injEq] at e7
     obtain ⟨rfl, rfl, _⟩ := e7
     rw [wQ hj] at hv
     have g4 : Rd ρ.F w t5 l5[j] cs := qGO (by simpa using href) g3
     exact fin h e4 hv (yX (up (qF4 g4)) off2 n) (by simpa using g2.part off2 n)
    ·cases hv
  ·cases hv
 | _ => simp [qCa] at hv
theorem qK5 (hC : jK P C) (h : Rep φ ρ st a w) {t : TypeId} {p : CV} {u : Value} {v : SV} (hp : CVR ρ w p u) (hv : qCa C st t p = some v) : Ans P φ (Instr.loadAt t u) a w st v :=
 (qDD hC h hp hv).1
end
end Go.Vsi
end
