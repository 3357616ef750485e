/- Part 1 of the proof: an evaluator of the program, proved sound against the model, and what the functions of the program compute. No condition but those each theorem states. -/
import GoSem.Dispatch
import GoSem.Core.Region
import Derived.Test.YtpocekfifokndaaDoorProg
import Derived.KernelRfl
set_option linter.unusedSimpArgs false
set_option linter.unusedVariables false
namespace Go.Ev
structure Ref where
  d : Nat
  s : Nat
  i : Nat
  g : Nat
  deriving DecidableEq
inductive V where
  | undef
  | junk
  | bool (b : Bool)
  | int (k : IntKind) (n : Int)
  | str (s : List UInt8)
  | nilI
  | ifc (t : TypeId) (v : V)
  | nilF
  | fn (f : FuncId) (first cap : List V)
  | nilP
  | ptr (r : Ref) (j off : Nat)
  | cptr (e : V) (ty : TypeId) (off : Nat)
  | nilS
  | sl (es : List V)
  | rs (r : Ref) (ty : TypeId) (off len : Nat)
  | agg (cs : List V)
  | tup (vs : List V)
  | own (es : List V) (ty : TypeId)
def V.cells : V → List V
  | .agg cs => cs
  | v => [v]
def V.width : V → Nat
  | .agg cs => cs.length
  | _ => 1
def V.isAgg : V → Bool
  | .agg _ => true
  | _ => false
def V.ok1 : V → Bool
  | .undef | .junk | .tup _ | .own .. => false
  | _ => true
structure Row where
  g : Nat
  ty : TypeId
  arr : Bool
  fz : Bool
  es : List V
def noRow : Row := { g := 0, ty := 0, arr := false, fz := false, es := [] }
inductive Trie (α : Type) where
  | nil
  | node (v : Option α) (l r : Trie α)
def Trie.get {α : Type} : Trie α → Nat → Option α
  | .nil, _ => none
  | .node v l r, n => if n = 0 then v else if n % 2 = 1 then l.get (n / 2) else r.get (n / 2 - 1)
def Trie.setF {α : Type} (a : α) : Nat → Trie α → Nat → Trie α
  | 0, .nil, _ => .node (some a) .nil .nil
  | 0, .node _ l r, _ => .node (some a) l r
  | f + 1, .nil, n => if n = 0 then .node (some a) .nil .nil else if n % 2 = 1 then .node none (Trie.setF a f .nil (n / 2)) .nil else .node none .nil (Trie.setF a f .nil (n / 2 - 1))
  | f + 1, .node v l r, n => if n = 0 then .node (some a) l r else if n % 2 = 1 then .node v (Trie.setF a f l (n / 2)) r else .node v l (Trie.setF a f r (n / 2 - 1))
def Trie.set {α : Type} (t : Trie α) (n : Nat) (a : α) : Trie α := Trie.setF a n t n
abbrev Rows := Trie (Trie Row)
def Rows.get (f : Rows) (s i : Nat) : Row :=
  match Trie.get f s with
  | some t => match t.get i with | some r => r | none => noRow
  | none => noRow
def Rows.upd (f : Rows) (s i : Nat) (r : Row) : Rows :=
  Trie.set f s (match Trie.get f s with | some t => t.set i r | none => Trie.nil.set i r)
abbrev Tm := Trie V
def Tm.get (t : Tm) (i : Nat) : V := match Trie.get t i with | some v => v | none => .undef
def Tm.set (t : Tm) (i : Nat) (v : V) : Tm := Trie.set t i v
structure Mem where
  own : Rows
  out : List Rows
def outRows : List Rows → Nat → Option Rows
  | [], _ => none
  | x :: xs, d => if d = xs.length then some x else outRows xs d
def outSet : List Rows → Nat → Nat → Nat → Row → List Rows
  | [], _, _, _, _ => []
  | x :: xs, d, s, i, r => if d = xs.length then x.upd s i r :: xs else x :: outSet xs d s i r
def Mem.rows (m : Mem) (d : Nat) : Option Rows := if d = m.out.length then some m.own else outRows m.out d
def Mem.row (m : Mem) (r : Ref) : Option Row :=
  match m.rows r.d with
  | some rows => if (rows.get r.s r.i).g = r.g then some (rows.get r.s r.i) else none
  | none => none
def Mem.set (m : Mem) (d s i : Nat) (row : Row) : Mem :=
  if d = m.out.length then { m with own := m.own.upd s i row } else { m with out := outSet m.out d s i row }
def Mem.new (m : Mem) (s i : Nat) (ty : TypeId) (arr : Bool) (es : List V) : Mem :=
  { m with own := m.own.upd s i { g := (m.own.get s i).g + 1, ty, arr, fz := false, es } }
def Mem.ref (m : Mem) (s i : Nat) : Ref := { d := m.out.length, s, i, g := (m.own.get s i).g }
def Mem.newRef (m : Mem) (s i : Nat) : Ref := { d := m.out.length, s, i, g := (m.own.get s i).g + 1 }
def ofCell : Value → V
  | .bool b => .bool b
  | .int k n => .int k n
  | .string s => .str s.data.toList
  | .nilIface => .nilI
  | .nilFunc => .nilF
  | .pointer a => if a.isNone then .nilP else .junk
  | .slice a l c => if a.isNone && l == 0 && c == 0 then .nilS else .junk
  | .func fn a b => match fn with | .func f => if a.size = 0 ∧ b.size = 0 then .fn f [] [] else .junk | _ => .junk
  | _ => .junk
def one : Value → Bool
  | .agg _ | .tuple _ => false
  | _ => true
def ofValue : Value → V
  | .agg cs => if cs.toList.all one = true then .agg (cs.toList.map ofCell) else .junk
  | v => ofCell v
def zeroOf (P : Program) (t : TypeId) : Option V :=
  match (P.info? t).bind (·.zero) with
  | some z => if t ≠ 0 ∧ (ofValue z).ok1 = true ∧ (ofValue z).cells.all V.ok1 = true ∧ (ofValue z).width = P.cellsOf t then some (ofValue z) else none
  | none => none
def aggT (P : Program) (t : TypeId) : Option Bool :=
  match P.underlying t with
  | some (.struct _) | some (.array _ _) => some true
  | some _ => some false
  | none => none
def part (P : Program) (t : TypeId) (cs : List V) (off : Nat) : Option V :=
  match aggT P t with
  | some true => some (.agg ((cs.drop off).take (P.cellsOf t)))
  | some false => cs[off]?
  | none => none
def V.loose : V → Bool
  | .rs .. | .ptr .. | .nilS => true
  | .fn _ _ cap => !cap.isEmpty
  | _ => false
def V.refs : V → Bool
  | .agg cs => cs.any V.loose
  | .tup _ => true
  | v => v.loose
def cut (l : List V) (off len : Nat) : List V := (l.drop off).take len
def snap1 (m : Mem) : V → Option V
  | .rs r _ off len => match m.row r with | some row => if row.arr = true ∧ off + len ≤ row.es.length then some (.sl (cut row.es off len)) else none | none => none
  | .nilS => some (.sl [])
  | v => some v
def snapL (m : Mem) : List V → Option (List V)
  | [] => some []
  | v :: vs => match snap1 m v, snapL m vs with | some x, some xs => some (x :: xs) | _, _ => none
def snap (m : Mem) : V → Option V
  | .agg cs => if cs.any V.loose then (snapL m cs).map .agg else some (.agg cs)
  | v => snap1 m v
def frz1 (m : Mem) : V → Mem
  | .rs r _ _ _ => match m.row r with | some row => if row.arr then m.set r.d r.s r.i { row with fz := true } else m | none => m
  | _ => m
def frzL (m : Mem) : List V → Mem
  | [] => m
  | v :: vs => frzL (frz1 m v) vs
def frz (m : Mem) : V → Mem
  | .agg cs => if cs.any V.loose then frzL m cs else m
  | v => frz1 m v
def snaps (m : Mem) : List V → Option (List V)
  | [] => some []
  | v :: vs => match snap m v, snaps m vs with | some x, some xs => some (x :: xs) | _, _ => none
def frzs (m : Mem) : List V → Mem
  | [] => m
  | v :: vs => frzs (frz m v) vs
def wr (k : IntKind) (n : Int) : Int :=
  match k with
  | .i64 => if -9223372036854775808 ≤ n ∧ n ≤ 9223372036854775807 then n else IntKind.wrap .i64 n
  | k => k.wrap n
def intBin (op : BinOp) (k : IntKind) (a b : Int) : Option V :=
  match op with
  | .add => some (.int k (wr k (a + b)))
  | .sub => some (.int k (wr k (a - b)))
  | .mul => some (.int k (wr k (a * b)))
  | .quo => if b = 0 then none else some (.int k (wr k (a.tdiv b)))
  | .rem => if b = 0 then none else some (.int k (a.tmod b))
  | .eql => some (.bool (a == b))
  | .neq => some (.bool (a != b))
  | .lss => some (.bool (decide (a < b)))
  | .leq => some (.bool (decide (a ≤ b)))
  | .gtr => some (.bool (decide (a > b)))
  | .geq => some (.bool (decide (a ≥ b)))
  | .and => some (.int k (wr k ((BitVec.ofInt k.bits a &&& BitVec.ofInt k.bits b).toNat)))
  | .or => some (.int k (wr k ((BitVec.ofInt k.bits a ||| BitVec.ofInt k.bits b).toNat)))
  | .xor => some (.int k (wr k ((BitVec.ofInt k.bits a ^^^ BitVec.ofInt k.bits b).toNat)))
  | .andNot => some (.int k (wr k ((BitVec.ofInt k.bits a &&& ~~~ BitVec.ofInt k.bits b).toNat)))
  | _ => none
def shiftBin (op : BinOp) (k : IntKind) (a y : Int) : Option V :=
  if y < 0 then none else
  match op with
  | .shl => some (.int k (wr k (a * 2 ^ (min y.toNat k.bits))))
  | .shr => some (.int k (a.fdiv (2 ^ (min y.toNat k.bits))))
  | _ => none
def maxLen : Nat := 2 ^ 40
def strBin (op : BinOp) (a b : List UInt8) : Option V :=
  match op with
  | .add => if a.length + b.length ≤ maxLen then some (.str (a ++ b)) else none
  | .eql => some (.bool (a == b))
  | .neq => some (.bool (!(a == b)))
  | .lss => some (.bool (Op.bytesLess a b))
  | .leq => some (.bool (Op.bytesLess a b || a == b))
  | .gtr => some (.bool (!(Op.bytesLess a b || a == b)))
  | .geq => some (.bool (!Op.bytesLess a b))
  | _ => none
def eqElems (f : V → V → Option Bool) (P : Program) (e : TypeId) (xs ys : List V) : Nat → Nat → Option Bool
  | 0, _ => some true
  | k + 1, i =>
    match part P e xs (i * P.cellsOf e), part P e ys (i * P.cellsOf e) with
    | some x, some y =>
      match f x y with
      | some true => eqElems f P e xs ys k (i + 1)
      | r => r
    | _, _ => none
def eqFields (f : TypeId → V → V → Option Bool) (P : Program) (xs ys : List V) : List Field → Option Bool
  | [] => some true
  | fd :: fs =>
    if fd.name = "_" then eqFields f P xs ys fs else
    match part P fd.type xs fd.offset, part P fd.type ys fd.offset with
    | some x, some y =>
      match f fd.type x y with
      | some true => eqFields f P xs ys fs
      | r => r
    | _, _ => none
def eqT (P : Program) : Nat → TypeId → V → V → Option Bool
  | 0, _, _, _ => none
  | d + 1, t, x, y =>
    match P.underlying t with
    | some .bool => match x, y with | .bool a, .bool b => some (a == b) | _, _ => none
    | some (.int _) => match x, y with | .int k a, .int k' b => if k = k' then some (a == b) else none | _, _ => none
    | some .string => match x, y with | .str a, .str b => some (a == b) | _, _ => none
    | some (.interface _) => match x, y with | .nilI, .nilI => some true | .nilI, .ifc _ _ => some false | .ifc _ _, .nilI => some false | _, _ => none
    | some (.pointer _) => match x, y with | .nilP, .nilP => some true | .nilP, .ptr .. => some false | .ptr .., .nilP => some false | _, _ => none
    | some (.struct fs) => match x, y with | .agg xs, .agg ys => if P.stoodInHeld t then none else eqFields (eqT P d) P xs ys fs.toList | _, _ => none
    | some (.array n e) => match x, y with | .agg xs, .agg ys => if (aggT P e).isSome then eqElems (eqT P d e) P e xs ys n 0 else none | _, _ => none
    | _ => none
def eqOk (P : Program) (t : TypeId) (cx cy : Bool) : V → V → Bool
  | .agg _, .agg _ => !P.eqGuardType P.depth t
  | .nilI, .nilI => cx || cy
  | _, _ => true
def bin (P : Program) (op : BinOp) (t : TypeId) (cx cy : Bool) (x y : V) : Option V :=
  match x, y with
  | .int k a, .int k' b =>
    match op with
    | .shl | .shr => shiftBin op k a b
    | _ => if k = k' then intBin op k a b else none
  | .str a, .str b => strBin op a b
  | x, y =>
    if eqOk P t cx cy x y then
      match op with
      | .eql => (eqT P 8 t x y).map .bool
      | .neq => (eqT P 8 t x y).map fun b => .bool (!b)
      | _ => none
    else none
def un (op : UnOp) (x : V) : Option V :=
  match op, x with
  | .neg, .int k n => some (.int k (wr k (0 - n)))
  | .not, .bool b => some (.bool (!b))
  | _, _ => none
inductive OpR where
  | val (v : V) (m : Mem)
  | skip (m : Mem)
  | call (f : FuncId) (args : List V) (m : Mem)
  | defer (f : FuncId) (args : List V)
  | panic (v : V)
structure Env where
  P : Program
  glob : Nat → Option (V × TypeId)
  ext : FuncId → List V → Option V
  own : Func → Bool
  ints : List Nat
def opd (X : Env) (t : Tm) : Operand → V
  | .tmp i => t.get i
  | .const v => ofValue v
  | .func f => .fn f [] []
  | .global g => match X.glob g with | some (v, ty) => .cptr v ty 0 | none => .junk
def idx : V → Option Int
  | .int _ n => some n
  | _ => none
def loOf : Option V → Option Int
  | some v => idx v
  | none => some 0
def hiOf (len : Nat) : Option V → Option Int
  | some v => idx v
  | none => some len
def bounds (len : Nat) (lo hi : Option V) : Option (Nat × Nat) :=
  match loOf lo, hiOf len hi with
  | some l, some h => if 0 ≤ l ∧ l ≤ h ∧ h ≤ len then some (l.toNat, h.toNat) else none
  | _, _ => none
def fillNil (m : Mem) (s : Nat) : Nat → List V → Mem × List V
  | _, [] => (m, [])
  | i, .nilS :: cs =>
    let r := m.newRef s i
    let p := fillNil (m.new s i 0 true []) s (i + 1) cs
    (p.1, .rs r 0 0 0 :: p.2)
  | i, c :: cs => let p := fillNil m s (i + 1) cs; (p.1, c :: p.2)
def V.isNilS : V → Bool
  | .nilS => true
  | _ => false
def filled (m : Mem) (s : Nat) : V → Mem × V
  | .agg cs => if cs.any V.isNilS then let p := fillNil m s 1 cs; (p.1, .agg p.2) else (m, .agg cs)
  | .nilS => (m.new s 1 0 true [], .rs (m.newRef s 1) 0 0 0)
  | v => (m, v)
def splice (cs : List V) (off : Nat) (x : List V) : List V := cs.take off ++ x ++ cs.drop (off + x.length)
def fillParts (P : Program) (t : TypeId) (cs : List V) : List (Nat × V) → Option (List V)
  | [] => some cs
  | (i, v) :: rest =>
    match P.underlying t with
    | some (.struct fs) =>
      match fs[i]? with
      | some f => if v.ok1 = true ∧ v.width = P.cellsOf f.type ∧ f.offset + v.width ≤ cs.length then fillParts P t (splice cs f.offset v.cells) rest else none
      | none => none
    | some (.array _ e) =>
      if v.ok1 = true ∧ v.width = P.cellsOf e ∧ i * P.cellsOf e + v.width ≤ cs.length then fillParts P t (splice cs (i * P.cellsOf e) v.cells) rest else none
    | _ => none
def partsOk (P : Program) (t : TypeId) : Bool :=
  match P.underlying t with
  | some (.struct fs) => fs.toList.all fun f => (P.info? f.type).isSome
  | some (.array _ e) => (P.info? e).isSome
  | _ => false
def fillElems (size : Nat) (es : List V) : List (Nat × V) → Option (List V)
  | [] => some es
  | (i, v) :: rest => if v.ok1 = true ∧ v.width = size ∧ i < es.length then fillElems size (es.set i v) rest else none
def pick (P : Program) (t ty : TypeId) (e : V) (off : Nat) : Option V :=
  if t = ty ∧ off = 0 then (if aggT P t = some e.isAgg ∧ e.width = P.cellsOf t then some e else none)
  else if off + P.cellsOf t ≤ e.width then part P t e.cells off else none
def okT (P : Program) (t : TypeId) : Bool := (P.info? t).isSome
def slElem (P : Program) (t : TypeId) : Option TypeId :=
  match P.underlying t with
  | some (.slice e) => some e
  | _ => none
def depth1 (d : Nat) : V → Bool
  | .rs r _ _ _ => decide (r.d ≤ d)
  | .ptr r _ _ => decide (r.d ≤ d)
  | .fn _ _ cap => cap.all fun | .ptr r _ _ => decide (r.d ≤ d) | _ => false
  | _ => true
def V.depthOk (d : Nat) : V → Bool
  | .agg cs => if cs.any V.loose then cs.all (depth1 d) else true
  | v => depth1 d v
def elemOk (v : V) : Bool := !v.refs
def appendTo (X : Env) (m : Mem) (dst : Nat) (ty : TypeId) (s : V) (xs : List V) : Option (V × Mem) :=
  match s with
  | .rs r _ off len =>
    match m.row r with
    | some row =>
      if (row.fz = false ∨ off + len = row.es.length) ∧ row.arr = true ∧ (zeroOf X.P ty).isSome = true ∧ xs.all (fun v => decide (v.width = X.P.cellsOf ty)) = true ∧ (len + xs.length) * (X.P.bytesOf ty + X.P.cellsOf ty + 1) ≤ maxLen ∧ (row.ty = ty ∨ (row.ty = 0 ∧ row.es.length = 0)) ∧
          off + len ≤ row.es.length ∧ (off = 0 ∨ 0 < len) then
        some (.rs { r with g := row.g + 1 } ty 0 (len + xs.length), m.set r.d r.s r.i { row with g := row.g + 1, ty, es := cut row.es off len ++ xs })
      else none
    | none => none
  | .nilS =>
    if (zeroOf X.P ty).isSome = true ∧ xs.all (fun v => decide (v.width = X.P.cellsOf ty)) = true ∧ xs.length * (X.P.bytesOf ty + X.P.cellsOf ty + 1) ≤ maxLen then
      some (.rs (m.newRef dst 0) ty 0 xs.length, m.new dst 0 ty true xs) else none
  | _ => none
def elemsOf (m : Mem) : V → Option (List V)
  | .sl es => some es
  | .nilS => some []
  | .rs r _ off len => match m.row r with | some row => if row.arr = true ∧ off + len ≤ row.es.length then some (cut row.es off len) else none | none => none
  | _ => none
def setElem (P : Program) (row : Row) (j off : Nat) (ty : TypeId) (v : V) : Option Row :=
  match row.es[j]? with
  | some e =>
    if ty = row.ty ∧ off = 0 then (if v.width = P.cellsOf ty then some { row with es := row.es.set j v } else none)
    else match e with
      | .agg cs => if off + v.width ≤ cs.length ∧ v.width = P.cellsOf ty then some { row with es := row.es.set j (.agg (splice cs off v.cells)) } else none
      | _ => none
  | none => none
def nilIn (m : Mem) (d : Nat) : V → Bool
  | .nilS => true
  | .rs r _ off len => if d < r.d then decide (off = 0) && decide (len = 0) && (match m.row r with | some row => decide (row.ty = 0) | none => false) else false
  | _ => false
def unNil1 (m : Mem) (r : Ref) (off : Nat) (v : V) : Mem × V :=
  if nilIn m r.d v then
    match m.rows r.d with
    | some rows =>
      (m.set r.d r.s (500 + off) { g := (rows.get r.s (500 + off)).g + 1, ty := 0, arr := true, fz := false, es := [] },
        .rs { d := r.d, s := r.s, i := 500 + off, g := (rows.get r.s (500 + off)).g + 1 } 0 0 0)
    | none => (m, .junk)
  else (m, v)
def unNilL (m : Mem) (r : Ref) (off : Nat) : List V → Mem × List V
  | [] => (m, [])
  | c :: cs => ((unNilL (unNil1 m r off c).1 r (off + 1) cs).1, (unNil1 m r off c).2 :: (unNilL (unNil1 m r off c).1 r (off + 1) cs).2)
def unNil (m : Mem) (r : Ref) (off : Nat) : V → Mem × V
  | .agg cs => if cs.any (nilIn m r.d) then ((unNilL m r off cs).1, .agg (unNilL m r off cs).2) else (m, .agg cs)
  | v => unNil1 m r off v
def calleeOf : V → Option (FuncId × List V × List V)
  | .fn f first cap => some (f, first, cap)
  | _ => none
def builtin (X : Env) (m : Mem) (dst : Nat) (b : Builtin) (tys : Array TypeId) (args : List V) : Option OpR :=
  match b, args with
  | .len, [v] =>
    match (tys[0]?).bind X.P.underlying, v with
    | some .string, .str s => some (.val (.int .i64 s.length) m)
    | some (.slice _), .sl es => some (.val (.int .i64 es.length) m)
    | some (.slice _), .rs _ _ _ len => some (.val (.int .i64 len) m)
    | some (.slice _), .nilS => some (.val (.int .i64 0) m)
    | _, _ => none
  | .append, [s, x] =>
    match (tys[0]?).bind (slElem X.P), (tys[1]?).bind X.P.underlying with
    | some ty, some ty2 =>
      match x with
      | .str b =>
        match X.P.underlying ty, ty2 with
        | some (.int .u8), .string => if X.P.cellsOf ty = 1 then (appendTo X m dst ty s (b.map fun c => .int .u8 c.toNat)).map fun p => .val p.1 p.2 else none
        | _, _ => none
      | x =>
        match elemsOf m x, ty2 with
        | some xs, .slice _ => (appendTo X m dst ty s xs).map fun p => .val p.1 p.2
        | _, _ => none
    | _, _ => none
  | .min, [.int k a, .int _ b] => some (.val (.int k (if b < a then b else a)) m)
  | .max, [.int k a, .int _ b] => some (.val (.int k (if b > a then b else a)) m)
  | .max, [.int k a, .int _ b, .int _ c] => some (.val (.int k (if c > (if b > a then b else a) then c else (if b > a then b else a))) m)
  | _, _ => none
def mapOpd (X : Env) (t : Tm) (l : List Operand) : List V := l.map (opd X t)
def isConst : Operand → Bool
  | .const _ => true
  | _ => false
def scalarRes (P : Program) (f : FuncId) : Bool :=
  match P.funcs[f]? with
  | some fn => fn.resultTypes.toList.all fun t => match P.underlying t with | some .bool | some (.int _) | some .string => true | _ => false
  | none => false
def callOk (P : Program) (f : FuncId) : Bool :=
  match P.funcs[f]? with
  | some fn => fn.body.isSome && !(fn.name == "runtime.NumGoroutine")
  | none => false
def evOp (X : Env) (m : Mem) (t : Tm) (o : Oper) : Option OpR :=
  let dst := o.dst.getD 0
  match o.op with
  | .move x => some (.val (opd X t x) m)
  | .assign x => some (.val (filled m dst (opd X t x)).2 (filled m dst (opd X t x)).1)
  | .pick c a b => match opd X t c with | .bool c => some (.val (if c then opd X t a else opd X t b) m) | _ => none
  | .alloc ty =>
    match zeroOf X.P ty with
    | some z => some (.val (.ptr ((filled m dst z).1.newRef dst 0) 0 0) ((filled m dst z).1.new dst 0 ty false [(filled m dst z).2]))
    | none => none
  | .box ty x =>
    if ty ≠ 0 ∧ (opd X t x).ok1 = true ∧ (opd X t x).width = X.P.cellsOf ty then
      some (.val (.ptr ((filled m dst (opd X t x)).1.newRef dst 0) 0 0) ((filled m dst (opd X t x)).1.new dst 0 ty false [(filled m dst (opd X t x)).2])) else none
  | .build ty parts =>
    match zeroOf X.P ty with
    | some (.agg z) =>
      match fillParts X.P ty z (parts.toList.map fun p => (p.1, opd X t p.2)) with
      | some cs => if partsOk X.P ty = true then some (.val (filled m dst (.agg cs)).2 (filled m dst (.agg cs)).1) else none
      | none => none
    | _ => none
  | .buildSlice ty n parts =>
    match slElem X.P ty with
    | some e =>
      match zeroOf X.P e, snaps m (parts.toList.map fun p => opd X t p.2) with
      | some z, some vs =>
        match snap m z with
        | some z =>
          if z.width = X.P.cellsOf e ∧ n * X.P.cellsOf e ≤ 2 ^ 20 ∧ vs.all elemOk = true ∧ elemOk z = true ∧ z.ok1 = true then
            match fillElems (X.P.cellsOf e) (List.replicate n z) ((parts.toList.map (·.1)).zip vs) with
            | some es =>
              some (.val (.rs ((frzs m (parts.toList.map fun p => opd X t p.2)).newRef dst 0) e 0 n) ((frzs m (parts.toList.map fun p => opd X t p.2)).new dst 0 e true es))
            | none => none
          else none
        | none => none
      | _, _ => none
    | none => none
  | .load ty a =>
    match opd X t a with
    | .ptr r j off =>
      match m.row r with
      | some row => match row.es[j]? with | some e => (pick X.P ty row.ty e off).map fun v => .val v m | none => none
      | none => none
    | .cptr e ety off => (pick X.P ty ety e off).map fun v => .val v m
    | _ => none
  | .store ty a x =>
    match opd X t a with
    | .ptr r j off =>
      match m.row r with
      | some row =>
        if row.arr then
          match snap m (opd X t x) with
          | some v =>
            match (frz m (opd X t x)).row r with
            | some row =>
              if row.fz = false ∧ elemOk v = true ∧ v.ok1 = true ∧ okT X.P ty = true then
                match setElem X.P row j off ty v with
                | some row' => some (.skip ((frz m (opd X t x)).set r.d r.s r.i row'))
                | none => none
              else none
            | none => none
          | none => none
        else
          match (unNil m r off (opd X t x)).1.row r with
          | some row =>
            if row.fz = false ∧ row.arr = false ∧ (unNil m r off (opd X t x)).2.depthOk r.d = true ∧ (unNil m r off (opd X t x)).2.ok1 = true ∧ okT X.P ty = true then
              match setElem X.P row j off ty (unNil m r off (opd X t x)).2 with
              | some row' => some (.skip ((unNil m r off (opd X t x)).1.set r.d r.s r.i row'))
              | none => none
            else none
          | none => none
      | none => none
    | _ => none
  | .nilCheck x =>
    match opd X t x with
    | .ptr r j off => some (.val (.ptr r j off) m)
    | .cptr e ty off => some (.val (.cptr e ty off) m)
    | .fn f a b => some (.val (.fn f a b) m)
    | _ => none
  | .binOp op ty x y _ => (bin X.P op ty (isConst x) (isConst y) (opd X t x) (opd X t y)).map fun v => .val v m
  | .unOp op _ x => (un op (opd X t x)).map fun v => .val v m
  | .convert src dst x =>
    match X.P.underlying src, X.P.underlying dst, opd X t x with
    | some _, some (.int k), .int _ n => some (.val (.int k (wr k n)) m)
    | _, _, _ => none
  | .makeInterface ty x =>
    match X.P.underlying ty, opd X t x with
    | some (.int _), .int k n => some (.val (.ifc ty (.int k n)) m)
    | some .string, .str s => some (.val (.ifc ty (.str s)) m)
    | _, _ => none
  | .makeFunc (.func f) first cap =>
    match snaps m (mapOpd X t first.toList) with
    | some fs => if fs.all elemOk = true ∧ fs.all V.ok1 = true then some (.val (.fn f fs (mapOpd X t cap.toList)) (frzs m (mapOpd X t first.toList))) else none
    | none => none
  | .makeSlice ty l c =>
    match slElem X.P ty, opd X t l, opd X t c with
    | some e, .int .i64 n, .int .i64 k =>
      match zeroOf X.P e with
      | some z =>
        match snap m z with
        | some z =>
          if 0 ≤ n ∧ n ≤ k ∧ k.toNat * (X.P.bytesOf e + X.P.cellsOf e + 1) ≤ maxLen ∧ z.width = X.P.cellsOf e ∧ elemOk z = true ∧ z.ok1 = true then
            some (.val (.rs (m.newRef dst 0) e 0 n.toNat) (m.new dst 0 e true (List.replicate n.toNat z)))
          else none
        | none => none
      | none => none
    | _, _, _ => none
  | .slice ty x lo hi none =>
    match opd X t x with
    | .str s =>
      match X.P.underlying ty, bounds s.length (lo.map (opd X t)) (hi.map (opd X t)) with
      | some .string, some p => some (.val (.str ((s.drop p.1).take (p.2 - p.1))) m)
      | _, _ => none
    | .sl es =>
      match slElem X.P ty, bounds es.length (lo.map (opd X t)) (hi.map (opd X t)) with
      | some e, some p => if es.all (fun v => decide (v.width = X.P.cellsOf e)) = true ∧ okT X.P e = true then some (.val (.sl (cut es p.1 (p.2 - p.1))) m) else none
      | _, _ => none
    | .rs r rty off len =>
      match slElem X.P ty, bounds len (lo.map (opd X t)) (hi.map (opd X t)) with
      | some e, some p => if (rty = e ∨ p.1 = 0) ∧ okT X.P e = true then some (.val (.rs r rty (off + p.1) (p.2 - p.1)) m) else none
      | _, _ => none
    | .nilS =>
      match slElem X.P ty, bounds 0 (lo.map (opd X t)) (hi.map (opd X t)) with
      | some e, some _ => if okT X.P e = true then some (.val .nilS m) else none
      | _, _ => none
    | _ => none
  | .fieldAddr ty x f =>
    match X.P.underlying ty with
    | some (.struct fs) =>
      match fs[f]? with
      | some fd =>
        if X.P.cellsOf fd.type = 0 then none else
        match opd X t x with
        | .ptr r j off => some (.val (.ptr r j (off + fd.offset)) m)
        | .cptr e ety off => some (.val (.cptr e ety (off + fd.offset)) m)
        | _ => none
      | none => none
    | _ => none
  | .field ty x f =>
    match X.P.underlying ty with
    | some (.struct fs) =>
      match fs[f]?, opd X t x with
      | some fd, .agg cs => (part X.P fd.type cs fd.offset).map fun v => .val v m
      | _, _ => none
    | _ => none
  | .indexAddr ty x i =>
    match idx (opd X t i), X.P.underlying ty with
    | some i, some (.slice e) =>
      match opd X t x with
      | .rs r rty off len => if 0 ≤ i ∧ i < len ∧ rty = e ∧ okT X.P e = true then some (.val (.ptr r (off + i.toNat) 0) m) else none
      | .sl es =>
        if 0 ≤ i then
          match es[i.toNat]? with
          | some v => if v.width = X.P.cellsOf e ∧ okT X.P e = true then some (.val (.cptr v e 0) m) else none
          | none => none
        else none
      | _ => none
    | some i, some (.array n e) =>
      if 0 ≤ i ∧ i < n ∧ okT X.P e = true then
        match opd X t x with
        | .ptr r j off => some (.val (.ptr r j (off + i.toNat * X.P.cellsOf e)) m)
        | .cptr v ety off => some (.val (.cptr v ety (off + i.toNat * X.P.cellsOf e)) m)
        | _ => none
      else none
    | _, _ => none
  | .index ty x i =>
    match idx (opd X t i), X.P.underlying ty, opd X t x with
    | some i, some .string, .str s => if 0 ≤ i then (match s[i.toNat]? with | some b => some (.val (.int .u8 b.toNat) m) | none => none) else none
    | some i, some (.array n e), .agg cs => if 0 ≤ i ∧ i < n then (part X.P e cs (i.toNat * X.P.cellsOf e)).map fun v => .val v m else none
    | _, _, _ => none
  | .extract x i => match opd X t x with | .tup vs => (vs[i]?).map fun v => .val v m | _ => none
  | .typeAssert x xt ty ok =>
    match X.P.underlying xt, X.P.underlying ty, opd X t x, ok with
    | some (.interface _), some (.int _), .ifc ty' v, true =>
      if ty' = ty then some (.val (.tup [v, .bool true]) m)
      else match zeroOf X.P ty with | some z => some (.val (.tup [z, .bool false]) m) | none => none
    | _, _, _, _ => none
  | .call c =>
    match c.callee with
    | .builtin b => builtin X m dst b c.argTypes (mapOpd X t c.args.toList)
    | .value f =>
      match calleeOf (opd X t f) with
      | some (f, first, cap) =>
        match snaps m (mapOpd X t c.args.toList) with
        | some az => if callOk X.P f then some (.call f (first ++ az ++ cap) (if scalarRes X.P f = true ∧ (first ++ az ++ cap).any V.refs = false then m else frzs m (mapOpd X t c.args.toList))) else none
        | none => none
      | none => none
    | _ => none
  | .defer c =>
    match c.callee with
    | .value f =>
      match calleeOf (opd X t f), c.args.toList with
      | some (f, [], cap), [] => some (.defer f cap)
      | _, _ => none
    | _ => none
  | .panic x => match opd X t x with | .ifc ty v => some (.panic (.ifc ty v)) | _ => none
  | _ => none
inductive Res where
  | ret (v : V)
  | panic (v : V)
def leaves2 : V → List V
  | .agg cs => if cs.any V.loose then cs else []
  | v => [v]
def leaves : V → List V
  | .tup vs => vs.flatMap leaves2
  | v => leaves2 v
def names1 (m : Mem) : V → List (Nat × Nat)
  | .rs r _ _ _ => if r.d = m.out.length then [(r.s, r.i)] else []
  | _ => []
def names (m : Mem) (v : V) : List (Nat × Nat) := (leaves v).flatMap (names1 m)
def outer (m : Mem) : V → Bool
  | .ptr r _ _ => decide (r.d < m.out.length)
  | _ => false
def owned (m : Mem) (ok : Bool) : V → Bool
  | .rs r _ off len =>
    match m.row r with
    | some row => ok && decide (r.d = m.out.length) && !row.fz && row.arr && (off == 0 || decide (0 < len)) && decide (off + len ≤ row.es.length)
    | none => false
  | _ => false
def mv1 (m : Mem) (ok : Bool) : V → Option V
  | .rs r ty off len =>
    match m.row r with
    | some row =>
      if owned m ok (.rs r ty off len) then some (.own (cut row.es off len) row.ty)
      else if row.arr = true ∧ off + len ≤ row.es.length then some (.sl (cut row.es off len)) else none
    | none => none
  | .nilS => some (.sl [])
  | .ptr r j off => if outer m (.ptr r j off) then some (.ptr r j off) else none
  | .fn f first cap => if cap.all (outer m) then some (.fn f first cap) else none
  | .tup _ | .agg _ => none
  | v => some v
def mvL (m : Mem) (ok : Bool) : List V → Option (List V)
  | [] => some []
  | v :: vs => match mv1 m ok v, mvL m ok vs with | some x, some xs => some (x :: xs) | _, _ => none
def mv2 (m : Mem) (ok : Bool) : V → Option V
  | .agg cs => if cs.any V.loose then (mvL m ok cs).map .agg else some (.agg cs)
  | v => mv1 m ok v
def mv2s (m : Mem) (ok : Bool) : List V → Option (List V)
  | [] => some []
  | v :: vs => match mv2 m ok v, mv2s m ok vs with | some x, some xs => some (x :: xs) | _, _ => none
def mvT (m : Mem) (ok : Bool) : V → Option V
  | .tup vs => (mv2s m ok vs).map .tup
  | v => mv2 m ok v
def distinct (d : Bool) (m : Mem) (v : V) : Bool := d && decide (names m v).Nodup
def mv (d : Bool) (m : Mem) (v : V) : Option V := mvT m (distinct d m v) v
def frzR (d : Bool) (m : Mem) (v : V) : Mem := frzL m ((leaves v).filter fun c => !owned m (distinct d m v) c)
def V.plain1 : V → Bool
  | .bool _ | .int .. | .str _ => true
  | .ifc _ (.int ..) | .ifc _ (.str _) => true
  | _ => false
def V.plain : V → Bool
  | .tup vs => vs.all V.plain1
  | v => v.plain1
def V.transit : V → Bool
  | .own .. => true
  | _ => false
def inst1 (m : Mem) (dst i : Nat) : V → Mem × V
  | .own es ty => (m.new dst i ty true es, .rs (m.newRef dst i) ty 0 es.length)
  | v => (m, v)
def instL (m : Mem) (dst : Nat) : Nat → List V → Mem × List V
  | _, [] => (m, [])
  | i, v :: vs =>
    let p := inst1 m dst i v
    let q := instL p.1 dst (i + 1) vs
    (q.1, p.2 :: q.2)
def inst2 (m : Mem) (dst i : Nat) : V → Mem × V
  | .agg cs => if cs.any V.transit then let p := instL m dst i cs; (p.1, .agg p.2) else (m, .agg cs)
  | v => inst1 m dst i v
def inst2s (m : Mem) (dst : Nat) : Nat → List V → Mem × List V
  | _, [] => (m, [])
  | i, v :: vs =>
    let p := inst2 m dst i v
    let q := inst2s p.1 dst (i + 1000) vs
    (q.1, p.2 :: q.2)
def install (m : Mem) (dst : Nat) : V → Mem × V
  | .tup vs => let p := inst2s m dst 1000 vs; (p.1, .tup p.2)
  | v => inst2 m dst 1000 v
structure St where
  t : Tm
  m : Mem
  dfs : List (FuncId × List V)
inductive Out where
  | normal
  | exit (id : Nat)
  | ret
  | panic (v : V)
def put (t : Tm) (dst : Option Nat) (v : V) : Tm :=
  match dst with
  | some d => t.set d v
  | none => t
abbrev CallF := FuncId → List V → List Rows → Option (Res × List Rows)
abbrev CallD := FuncId → List V → List Rows → Option V → Option (List Rows)
def wantedV (ops : Array Oper) (t : Tm) (o : Oper) : Bool :=
  match o.guard with
  | none => true
  | some (j, want) =>
    match (ops[j]?).bind (·.dst) with
    | some d => match t.get d with | .bool b => b == want | _ => false
    | none => false
def doCall (X : Env) (call : CallF) (f : FuncId) (args : List V) (m : Mem) (dst : Nat) : Option (Res × Mem) :=
  match X.ext f args with
  | some v => if args.any V.refs = false ∧ (scalarRes X.P f = true → v.plain = true) then some (.ret (install m dst v).2, (install m dst v).1) else none
  | none =>
    if args.any V.refs then
      match call f args (m.own :: m.out) with
      | some (.ret v, own :: out) => if out.length = m.out.length then some (.ret (install ⟨own, out⟩ dst v).2, (install ⟨own, out⟩ dst v).1) else none
      | some (.panic v, own :: out) => if out.length = m.out.length then some (.panic v, ⟨own, out⟩) else none
      | _ => none
    else
      match call f args [] with
      | some (.ret v, _) => if scalarRes X.P f = true → v.plain = true then some (.ret (install m dst v).2, (install m dst v).1) else none
      | some (.panic v, _) => if scalarRes X.P f = true → v.plain1 = true then some (.panic v, m) else none
      | none => none
def deps (ops : List Oper) : List (List Nat) :=
  ops.foldl (fun acc o => acc ++ [o.after.toList.foldl (fun s e => if Region.binds .any e then e.on :: (acc.getD e.on [] ++ s) else s) []]) []
def comparable (ds : List (List Nat)) (i j : Nat) : Bool := (ds.getD j []).contains i || (ds.getD i []).contains j
def tmpsOf (ops : Array Oper) (o : Oper) : List Nat :=
  (o.op.operands.toList.filterMap fun | .tmp t => some t | _ => none) ++ (match o.guard with | some (g, _) => ((ops[g]?).bind (·.dst)).toList | none => [])
def indep (ops : Array Oper) (a b : Oper) : Bool :=
  (match a.dst with | some d => !(tmpsOf ops b).contains d && !(b.dst == some d) | none => true) &&
  (match b.dst with | some d => !(tmpsOf ops a).contains d | none => true)
def drawOk (ops : Array Oper) : Bool :=
  let ds := deps ops.toList
  (ops.toList.zipIdx.all fun p => p.1.after.toList.all fun e => !Region.binds .any e || decide (e.on < p.2)) &&
  (ops.toList.zipIdx.all fun p => ops.toList.zipIdx.all fun q => decide (q.2 ≤ p.2) || (ds.getD q.2 []).contains p.2 || indep ops p.1 q.1)
structure Foot where
  r : List (Nat × Nat)
  z : List (Nat × Nat)
  w : List (Nat × Nat)
  all : Bool
def Foot.none : Foot := ⟨[], [], [], false⟩
def rows1 : V → List (Nat × Nat)
  | .rs r _ _ _ => [(r.d, r.s)]
  | .ptr r _ _ => [(r.d, r.s)]
  | _ => []
def rowsOf : V → List (Nat × Nat)
  | .agg cs => if cs.any V.loose then cs.flatMap rows1 else []
  | v => rows1 v
def ptr1 : V → Bool
  | .ptr .. => true
  | .fn _ _ cap => !cap.isEmpty
  | .tup _ => true
  | _ => false
def ptrs : V → Bool
  | .agg cs => if cs.any V.loose then cs.any ptr1 else false
  | v => ptr1 v
def foot (X : Env) (st : St) (o : Oper) : Foot :=
  match o.op with
  | .load _ a => { Foot.none with r := rowsOf (opd X st.t a) }
  | .store _ a x => { Foot.none with z := rowsOf (opd X st.t x), w := rowsOf (opd X st.t a) }
  | .assign x => { Foot.none with w := if (opd X st.t x).refs then [(st.m.out.length, o.dst.getD 0)] else [] }
  | .alloc _ | .box _ _ | .build _ _ | .makeSlice _ _ _ => { Foot.none with w := [(st.m.out.length, o.dst.getD 0)] }
  | .buildSlice _ _ ps => { Foot.none with z := (ps.toList.map fun p => opd X st.t p.2).flatMap rowsOf, w := [(st.m.out.length, o.dst.getD 0)] }
  | .makeFunc _ first _ => { Foot.none with z := (mapOpd X st.t first.toList).flatMap rowsOf }
  | .call c =>
    match c.callee with
    | .builtin .append =>
      match mapOpd X st.t c.args.toList with
      | [s, x] => { Foot.none with r := rowsOf x, w := (st.m.out.length, o.dst.getD 0) :: rowsOf s }
      | _ => { Foot.none with all := true }
    | .builtin _ => Foot.none
    | .value f => { Foot.none with z := (mapOpd X st.t c.args.toList).flatMap rowsOf, w := [(st.m.out.length, o.dst.getD 0)], all := (mapOpd X st.t c.args.toList).any ptrs || ptrs (opd X st.t f) || (match calleeOf (opd X st.t f) with | some (_, first, _) => first.any V.refs | none => false) }
    | _ => { Foot.none with all := true }
  | .defer _ | .panic _ => { Foot.none with all := true }
  | _ => Foot.none
def meet (a b : List (Nat × Nat)) : Bool := a.any fun x => b.contains x
def Foot.idle (f : Foot) : Bool := f.r.isEmpty && f.z.isEmpty && f.w.isEmpty && !f.all
def Foot.ok (f g : Foot) : Bool :=
  f.idle || g.idle || (!f.all && !g.all && !meet f.w g.w && !meet f.w g.z && !meet f.w g.r && !meet f.z g.w && !meet f.z g.z && !meet f.r g.w)
def evOps (X : Env) (call : CallF) (ops : Array Oper) : List Oper → St → Option (Out × St)
  | [], st => some (.normal, st)
  | o :: rest, st =>
    if wantedV ops st.t o then
      match evOp X st.m st.t o with
      | some (.val v m) => evOps X call ops rest { st with t := put st.t o.dst v, m }
      | some (.skip m) => evOps X call ops rest { st with t := put st.t o.dst .undef, m }
      | some (.call f args m) =>
        match doCall X call f args m (o.dst.getD 0) with
        | some (.ret v, m) => evOps X call ops rest { st with t := put st.t o.dst v, m }
        | some (.panic v, m) => some (.panic v, { st with m })
        | none => none
      | some (.defer f cap) => evOps X call ops rest { st with t := put st.t o.dst .undef, dfs := (f, cap) :: st.dfs }
      | some (.panic v) => some (.panic v, st)
      | none => none
    else evOps X call ops rest { st with t := put st.t o.dst .undef }
def memStep (X : Env) (call : CallF) (o : Oper) (t : Tm) (m : Mem) : Option (V × Mem) :=
  match evOp X m t o with
  | some (.val v m) => some (v, m)
  | some (.skip m) => some (.undef, m)
  | some (.call g args m) => match doCall X call g args m (o.dst.getD 0) with | some (.ret v, m) => some (v, m) | _ => none
  | _ => none
def stepD (X : Env) (call : CallF) (ops : Array Oper) (o : Oper) (st : St) : Option St :=
  if wantedV ops st.t o then
    match memStep X call o st.t st.m with
    | some (v, m) => some { st with t := put st.t o.dst v, m }
    | none => none
  else some { st with t := put st.t o.dst .undef }
def footD (X : Env) (ops : Array Oper) (o : Oper) (st : St) : Foot := if wantedV ops st.t o then foot X st o else Foot.none
def evOpsD (X : Env) (call : CallF) (ops : Array Oper) (ds : List (List Nat)) : Nat → List Foot → List Oper → St → Option St
  | _, _, [], st => some st
  | i, fs, o :: rest, st =>
    if ((footD X ops o st).idle || (fs.zipIdx.all fun p => comparable ds p.2 i || p.1.ok (footD X ops o st))) = true then
      match stepD X call ops o st with
      | some st' => evOpsD X call ops ds (i + 1) (fs ++ [footD X ops o st]) rest st'
      | none => none
    else none
def runDefers (call : CallD) : List (FuncId × List V) → Mem → Option V → Option (Option V × Mem)
  | [], m, p => some (p, m)
  | (f, cap) :: ds, m, p =>
    match call f cap (m.own :: m.out) p with
    | some (own :: out) => runDefers call ds ⟨own, out⟩ none
    | _ => none
def resVar (X : Env) (m : Mem) (t : Tm) : ResultVar → Option V
  | .tmp i => some (t.get i)
  | .cell a ty =>
    match t.get a with
    | .ptr r j off =>
      match m.row r with
      | some row => match row.es[j]? with | some e => pick X.P ty row.ty e off | none => none
      | none => none
    | _ => none
def resVars (X : Env) (m : Mem) (t : Tm) : List ResultVar → Option (List V)
  | [] => some []
  | r :: rs => match resVar X m t r, resVars X m t rs with | some x, some xs => some (x :: xs) | _, _ => none
def resOf : List V → V
  | [v] => v
  | vs => .tup vs
def setAll (t : Tm) : Nat → List V → Tm
  | _, [] => t
  | i, v :: vs => setAll (t.set i v) (i + 1) vs
def enter (args : List V) (out : List Rows) : St :=
  { t := setAll Trie.nil 0 args, m := { own := .nil, out }, dfs := [] }
def codeOk (n : Nat) : Code → Bool
  | .region _ ops _ => ops.toList.all fun o => match o.dst with | some d => decide (d < n) | none => true
  | .seq a b => codeOk n a && codeOk n b
  | .cond _ a b => codeOk n a && codeOk n b
  | .block _ c => codeOk n c
  | .loop c => codeOk n c
  | .scope c => codeOk n c
  | .rangeFunc _ ps a b => ps.toList.all (fun d => decide (d < n)) && codeOk n a && codeOk n b
  | _ => true
def finish (X : Env) (call : CallD) (fn : Func) (st : St) (p : Option V) : Option (Res × List Rows) :=
  match runDefers call st.dfs st.m p with
  | some (some v, m) => if v.refs then none else some (.panic v, m.out)
  | some (none, m) =>
    match resVars X m st.t fn.results.toList with
    | some vs =>
      match mv (X.own fn) m (resOf vs) with
      | some v => some (.ret v, (frzR (X.own fn) m (resOf vs)).out)
      | none => none
    | none => none
  | none => none
def isRecover (o : Oper) : Bool :=
  match o.op, o.guard with
  | .call { callee := .builtin .recover, .. }, none => true
  | _, _ => false
mutual
def evC (X : Env) : Nat → Code → St → Option (Out × St)
  | 0, _, _ => none
  | n + 1, c, st =>
    match c with
    | .skip => some (.normal, st)
    | .label _ => some (.normal, st)
    | .seq a b =>
      match evC X n a st with
      | some (.normal, st') => evC X n b st'
      | r => r
    | .cond c a b =>
      match opd X st.t c with
      | .bool true => evC X n a st
      | .bool false => evC X n b st
      | _ => none
    | .block id c =>
      match evC X n c st with
      | some (.exit i, st') => if i = id then some (.normal, st') else some (.exit i, st')
      | r => r
    | .loop c =>
      match evC X n c st with
      | some (.normal, st') => evC X n (.loop c) st'
      | r => r
    | .exit id => some (.exit id, st)
    | .ret => some (.ret, st)
    | .region _ ops false => evOps X (evFn X n) ops ops.toList st
    | .region _ ops true =>
      if drawOk ops then
        match evOpsD X (evFn X n) ops (deps ops.toList) 0 [] ops.toList st with
        | some st => some (.normal, st)
        | none => none
      else none
    | _ => none
def evFn (X : Env) : Nat → CallF
  | 0 => fun _ _ _ => none
  | n + 1 => fun f args out =>
    match X.P.funcs[f]? with
    | none => none
    | some fn =>
      match fn.body with
      | none => none
      | some c =>
        if codeOk fn.ntmps c = true ∧ args.length ≤ fn.ntmps then
          match evC X n c (enter args out) with
          | some (.normal, st) => finish X (evD X n) fn st none
          | some (.ret, st) => finish X (evD X n) fn st none
          | some (.panic v, st) => finish X (evD X n) fn st (some v)
          | _ => none
        else none
def evD (X : Env) : Nat → CallD
  | 0 => fun _ _ _ _ => none
  | n + 1 => fun f args out p =>
    match X.P.funcs[f]? with
    | none => none
    | some fn =>
      match fn.body with
      | some (.seq (.region _ ops false) c) =>
        match ops.toList with
        | o :: os =>
          if codeOk fn.ntmps (.seq (.region 0 ops false) c) = true ∧ args.length ≤ fn.ntmps ∧ isRecover o = true ∧ callOk X.P f = true then
            match evOps X (evFn X n) ops os { enter args out with t := put (enter args out).t o.dst (p.getD .nilI) } with
            | some (.normal, st) =>
              match evC X n c st with
              | some (.normal, st') => if st'.dfs.length = 0 ∧ fn.results.size = 0 then some st'.m.out else none
              | some (.ret, st') => if st'.dfs.length = 0 ∧ fn.results.size = 0 then some st'.m.out else none
              | _ => none
            | _ => none
          else none
        | [] => none
      | _ => none
end
end Go.Ev
namespace Go.Ev
def CallF.le (c d : CallF) : Prop := ∀ f args out r, c f args out = some r → d f args out = some r
def CallD.le (c d : CallD) : Prop := ∀ f args out p r, c f args out p = some r → d f args out p = some r
theorem doCall_mono {X : Env} {c d : CallF} (h : c.le d) {f : FuncId} {args : List V} {m : Mem} {dst : Nat} {r : Res × Mem}
    (e : doCall X c f args m dst = some r) : doCall X d f args m dst = some r := by
  unfold doCall at *
  cases he : X.ext f args with
  | some v => simpa [he] using e
  | none =>
    simp only [he] at e ⊢
    by_cases hr : args.any V.refs = true
    · simp only [hr, if_true] at e ⊢
      cases hc : c f args (m.own :: m.out) with
      | none => simp [hc] at e
      | some q => rw [h _ _ _ _ hc]; simpa [hc] using e
    · simp only [hr, if_false, Bool.false_eq_true] at e ⊢
      cases hc : c f args [] with
      | none => simp [hc] at e
      | some q => rw [h _ _ _ _ hc]; simpa [hc] using e
theorem evOps_mono {X : Env} {c d : CallF} (h : c.le d) {ops : Array Oper} : ∀ (l : List Oper) (st : St) (r : Out × St),
    evOps X c ops l st = some r → evOps X d ops l st = some r := by
  intro l
  induction l with
  | nil => intro st r e; simpa [evOps] using e
  | cons o l ih =>
    intro st r e
    rw [evOps] at e ⊢
    split
    · rename_i hw
      rw [if_pos hw] at e
      cases ho : evOp X st.m st.t o with
      | none => simp [ho] at e
      | some q =>
        simp only [ho] at e ⊢
        cases q with
        | val v m => exact ih _ _ e
        | skip m => exact ih _ _ e
        | call f args m =>
          simp only at e ⊢
          cases hc : doCall X c f args m (o.dst.getD 0) with
          | none => simp [hc] at e
          | some q =>
            rw [doCall_mono h hc]
            obtain ⟨res, m'⟩ := q
            cases res with
            | ret v => simp only [hc] at e ⊢; exact ih _ _ e
            | panic v => simpa [hc] using e
        | defer f cap => exact ih _ _ e
        | panic v => simpa using e
    · rename_i hw
      rw [if_neg hw] at e
      exact ih _ _ e
theorem memStep_mono {X : Env} {c d : CallF} (h : c.le d) {o : Oper} {t : Tm} {m : Mem} {r : V × Mem} (e : memStep X c o t m = some r) : memStep X d o t m = some r := by
  unfold memStep at e ⊢
  cases ho : evOp X m t o with
  | none => simp [ho] at e
  | some q =>
    simp only [ho] at e ⊢
    cases q with
    | val v m => exact e
    | skip m => exact e
    | call f args m =>
      simp only at e ⊢
      cases hc : doCall X c f args m (o.dst.getD 0) with
      | none => simp [hc] at e
      | some q =>
        rw [doCall_mono h hc]
        rw [hc] at e
        exact e
    | defer f cap => simp at e
    | panic v => simp at e
theorem stepD_mono {X : Env} {c d : CallF} (h : c.le d) {ops : Array Oper} {o : Oper} {st st' : St} (e : stepD X c ops o st = some st') : stepD X d ops o st = some st' := by
  unfold stepD at e ⊢
  split
  · rename_i hw
    rw [if_pos hw] at e
    cases hm : memStep X c o st.t st.m with
    | none => simp [hm] at e
    | some q => rw [memStep_mono h hm]; rw [hm] at e; exact e
  · rename_i hw
    rw [if_neg hw] at e
    exact e
theorem evOpsD_mono {X : Env} {c d : CallF} (h : c.le d) {ops : Array Oper} {ds : List (List Nat)} : ∀ (l : List Oper) (i : Nat) (fs : List Foot) (st : St) (r : St),
    evOpsD X c ops ds i fs l st = some r → evOpsD X d ops ds i fs l st = some r := by
  intro l
  induction l with
  | nil => intro i fs st r e; simpa [evOpsD] using e
  | cons o l ih =>
    intro i fs st r e
    rw [evOpsD] at e ⊢
    split
    · rename_i hw
      rw [if_pos hw] at e
      cases hs : stepD X c ops o st with
      | none => simp [hs] at e
      | some st' =>
        rw [stepD_mono h hs]
        rw [hs] at e
        exact ih _ _ _ _ e
    · rename_i hw
      rw [if_neg hw] at e
      simp at e
theorem runDefers_mono {c d : CallD} (h : c.le d) : ∀ (l : List (FuncId × List V)) (m : Mem) (p : Option V) (r : Option V × Mem),
    runDefers c l m p = some r → runDefers d l m p = some r := by
  intro l
  induction l with
  | nil => intro m p r e; simpa [runDefers] using e
  | cons x l ih =>
    intro m p r e
    obtain ⟨f, cap⟩ := x
    rw [runDefers] at e ⊢
    cases hc : c f cap (m.own :: m.out) p with
    | none => simp [hc] at e
    | some out =>
      rw [h _ _ _ _ _ hc]
      cases out with
      | nil => simp [hc] at e
      | cons a b => simp only [hc] at e ⊢; exact ih _ _ _ e
theorem finish_mono {X : Env} {c d : CallD} (h : c.le d) {fn : Func} {st : St} {p : Option V} {r : Res × List Rows}
    (e : finish X c fn st p = some r) : finish X d fn st p = some r := by
  unfold finish at *
  cases hc : runDefers c st.dfs st.m p with
  | none => simp [hc] at e
  | some q => rw [runDefers_mono h _ _ _ _ hc]; simpa [hc] using e
theorem ev_mono (X : Env) : ∀ n, (∀ c st r, evC X n c st = some r → evC X (n + 1) c st = some r) ∧ (evFn X n).le (evFn X (n + 1)) ∧ (evD X n).le (evD X (n + 1)) := by
  intro n
  induction n with
  | zero => exact ⟨fun c st r e => by simp [evC] at e, fun f args out r e => by simp [evFn] at e, fun f args out p r e => by simp [evD] at e⟩
  | succ n ih =>
    obtain ⟨ihC, ihF, ihD⟩ := ih
    refine ⟨?_, ?_, ?_⟩
    · intro c st r e
      cases c with
      | skip => simpa [evC] using e
      | label l => simpa [evC] using e
      | seq a b =>
        rw [evC] at e ⊢
        cases ha : evC X n a st with
        | none => simp [ha] at e
        | some q =>
          rw [ihC _ _ _ ha]
          obtain ⟨o, s⟩ := q
          cases o with
          | normal => simp only [ha] at e ⊢; exact ihC _ _ _ e
          | _ => simpa [ha] using e
      | cond x a b =>
        rw [evC] at e ⊢
        split <;> rename_i hx
        · simp only [hx] at e; exact ihC _ _ _ e
        · simp only [hx] at e; exact ihC _ _ _ e
        · split at e
          · rename_i h1; exact absurd h1 (by assumption)
          · rename_i h1; exact absurd h1 (by assumption)
          · exact e
      | block id a =>
        rw [evC] at e ⊢
        cases ha : evC X n a st with
        | none => simp [ha] at e
        | some q => rw [ihC _ _ _ ha]; rw [ha] at e; exact e
      | loop a =>
        rw [evC] at e ⊢
        cases ha : evC X n a st with
        | none => simp [ha] at e
        | some q =>
          rw [ihC _ _ _ ha]
          obtain ⟨o, s⟩ := q
          cases o with
          | normal => simp only [ha] at e ⊢; exact ihC _ _ _ e
          | _ => simpa [ha] using e
      | exit id => simpa [evC] using e
      | ret => simpa [evC] using e
      | region id ops dr =>
        cases dr with
        | false => simp only [evC] at e ⊢; exact evOps_mono ihF _ _ _ e
        | true =>
          simp only [evC] at e ⊢
          split
          · rename_i hd
            rw [if_pos hd] at e
            cases hx : evOpsD X (evFn X n) ops (deps ops.toList) 0 [] ops.toList st with
            | none => simp [hx] at e
            | some s => rw [evOpsD_mono ihF _ _ _ _ _ hx]; simpa [hx] using e
          · rename_i hd; rw [if_neg hd] at e; exact e
      | rangeFunc f p a b => simp [evC] at e
      | scope b => simp [evC] at e
      | goto l => simp [evC] at e
      | refuse w => simp [evC] at e
    · intro f args out r e
      rw [evFn] at e ⊢
      cases hf : X.P.funcs[f]? with
      | none => simp [hf] at e
      | some fn =>
        simp only [hf] at e ⊢
        cases hb : fn.body with
        | none => simp [hb] at e
        | some c =>
          simp only [hb] at e ⊢
          split
          · rename_i hok
            rw [if_pos hok] at e
            cases hc : evC X n c (enter args out) with
            | none => simp [hc] at e
            | some q =>
              rw [ihC _ _ _ hc]
              obtain ⟨o, s⟩ := q
              cases o with
              | normal => simp only [hc] at e ⊢; exact finish_mono ihD e
              | ret => simp only [hc] at e ⊢; exact finish_mono ihD e
              | panic v => simp only [hc] at e ⊢; exact finish_mono ihD e
              | exit id => simp [hc] at e
          · rename_i hok; simp [hok] at e
    · intro f args out p r e
      rw [evD] at e ⊢
      cases hf : X.P.funcs[f]? with
      | none => simp [hf] at e
      | some fn =>
        simp only [hf] at e ⊢
        split
        · rename_i id ops c hb
          simp only [hb] at e
          split
          · rename_i o os ho
            simp only [ho] at e
            split
            · rename_i hok
              rw [if_pos hok] at e
              split at e
              · rename_i st hs
                rw [evOps_mono ihF _ _ _ hs]
                simp only
                split at e
                · rename_i st' hs'
                  rw [ihC _ _ _ hs']
                  exact e
                · rename_i st' hs'
                  rw [ihC _ _ _ hs']
                  exact e
                · simp at e
              · simp at e
            · rename_i hok; rw [if_neg hok] at e; simp at e
          · rename_i ho; simp [ho] at e
        · rename_i hb
          split at e
          · rename_i id ops c hb'; exact absurd hb' (hb id ops c)
          · simp at e
theorem evC_le {X : Env} {n m : Nat} (h : n ≤ m) {c : Code} {st : St} {r : Out × St} (e : evC X n c st = some r) : evC X m c st = some r := by
  induction h with
  | refl => exact e
  | step _ ih => exact (ev_mono X _).1 _ _ _ ih
theorem evFn_le {X : Env} {n m : Nat} (h : n ≤ m) : (evFn X n).le (evFn X m) := by
  induction h with
  | refl => exact fun _ _ _ _ e => e
  | step _ ih => exact fun _ _ _ _ e => (ev_mono X _).2.1 _ _ _ _ (ih _ _ _ _ e)
theorem evD_le {X : Env} {n m : Nat} (h : n ≤ m) : (evD X n).le (evD X m) := by
  induction h with
  | refl => exact fun _ _ _ _ _ e => e
  | step _ ih => exact fun _ _ _ _ _ e => (ev_mono X _).2.2 _ _ _ _ _ (ih _ _ _ _ _ e)
def W (X : Env) (c : Code) (Q : Out → St → Prop) (st : St) : Prop := ∃ n o st', evC X n c st = some (o, st') ∧ Q o st'
def WL (X : Env) (ops : Array Oper) (l : List Oper) (Q : Out → St → Prop) (st : St) : Prop :=
  ∃ n o st', evOps X (evFn X n) ops l st = some (o, st') ∧ Q o st'
def RunsAt (X : Env) (f : FuncId) (args : List V) (out : List Rows) (r : Res × List Rows) : Prop := ∃ n, evFn X n f args out = some r
def Runs (X : Env) (f : FuncId) (args : List V) (r : Res) : Prop := ∃ out, RunsAt X f args [] (r, out)
def thenQ (k : St → Prop) (Q : Out → St → Prop) : Out → St → Prop
  | .normal, s => k s
  | o, s => Q o s
def blockQ (id : Nat) (Q : Out → St → Prop) : Out → St → Prop
  | .exit i, s => if i = id then Q .normal s else Q (.exit i) s
  | o, s => Q o s
section
variable {X : Env} {Q : Out → St → Prop} {st : St}
theorem W_mono {c : Code} {Q' : Out → St → Prop} (h : W X c Q st) (hq : ∀ o s, Q o s → Q' o s) : W X c Q' st :=
  let ⟨n, o, s, e, q⟩ := h; ⟨n, o, s, e, hq _ _ q⟩
theorem W_skip (h : Q .normal st) : W X .skip Q st := ⟨1, _, _, rfl, h⟩
theorem W_label {l : Nat} (h : Q .normal st) : W X (.label l) Q st := ⟨1, _, _, rfl, h⟩
theorem W_exit {id : Nat} (h : Q (.exit id) st) : W X (.exit id) Q st := ⟨1, _, _, rfl, h⟩
theorem W_ret (h : Q .ret st) : W X .ret Q st := ⟨1, _, _, rfl, h⟩
theorem W_seq {a b : Code} (h : W X a (thenQ (W X b Q) Q) st) : W X (.seq a b) Q st := by
  obtain ⟨n, o, s, e, q⟩ := h
  cases o with
  | normal =>
    obtain ⟨k, o', s', e', q'⟩ := q
    refine ⟨max n k + 1, o', s', ?_, q'⟩
    rw [evC, evC_le (Nat.le_max_left n k) e]
    exact evC_le (Nat.le_max_right n k) e'
  | _ => exact ⟨n + 1, _, s, by rw [evC, e], q⟩
theorem W_cond {c : Operand} {a b : Code} {t : Bool} (hc : opd X st.t c = .bool t) (h : if t then W X a Q st else W X b Q st) : W X (.cond c a b) Q st := by
  cases t with
  | true => obtain ⟨n, o, s, e, q⟩ := h; exact ⟨n + 1, o, s, by rw [evC, hc]; exact e, q⟩
  | false => obtain ⟨n, o, s, e, q⟩ := h; exact ⟨n + 1, o, s, by rw [evC, hc]; exact e, q⟩
theorem W_block {id : Nat} {c : Code} (h : W X c (blockQ id Q) st) : W X (.block id c) Q st := by
  obtain ⟨n, o, s, e, q⟩ := h
  cases o with
  | exit i =>
    by_cases hi : i = id
    · exact ⟨n + 1, .normal, s, by rw [evC, e]; simp [hi], by simpa [blockQ, hi] using q⟩
    · exact ⟨n + 1, .exit i, s, by rw [evC, e]; simp [hi], by simpa [blockQ, hi] using q⟩
  | _ => exact ⟨n + 1, _, s, by rw [evC, e], q⟩
theorem W_loop {c : Code} (I : St → Prop) (μ : St → Nat) (h0 : I st) (step : ∀ s, I s → W X c (thenQ (fun s' => I s' ∧ μ s' < μ s) Q) s) : W X (.loop c) Q st := by
  have key : ∀ k s, μ s = k → I s → W X (.loop c) Q s := by
    intro k
    induction k using Nat.strongRecOn with
    | _ k ih =>
      intro s hk hI
      obtain ⟨n, o, s1, e, q⟩ := step s hI
      cases o with
      | normal =>
        obtain ⟨hI1, hlt⟩ := q
        obtain ⟨n2, o2, s2, e2, q2⟩ := ih (μ s1) (hk ▸ hlt) s1 rfl hI1
        refine ⟨max n n2 + 1, o2, s2, ?_, q2⟩
        rw [evC, evC_le (Nat.le_max_left n n2) e]
        exact evC_le (Nat.le_max_right n n2) e2
      | _ => exact ⟨n + 1, _, s1, by rw [evC, e], q⟩
  exact key _ st rfl h0
theorem W_region {id : Nat} {ops : Array Oper} (h : WL X ops ops.toList Q st) : W X (.region id ops false) Q st := by
  obtain ⟨n, o, s, e, q⟩ := h
  exact ⟨n + 1, o, s, by simp only [evC]; exact e, q⟩
theorem WL_nil {ops : Array Oper} (h : Q .normal st) : WL X ops [] Q st := ⟨0, _, _, rfl, h⟩
def next (X : Env) (ops : Array Oper) (o : Oper) (rest : List Oper) (Q : Out → St → Prop) (st : St) : Option OpR → Prop
  | some (.val v m) => WL X ops rest Q { st with t := put st.t o.dst v, m }
  | some (.skip m) => WL X ops rest Q { st with t := put st.t o.dst .undef, m }
  | some (.call f args m) => ∃ n r, doCall X (evFn X n) f args m (o.dst.getD 0) = some r ∧
      (match r with
       | (.ret v, m) => WL X ops rest Q { st with t := put st.t o.dst v, m }
       | (.panic v, m) => Q (.panic v) { st with m })
  | some (.defer f cap) => WL X ops rest Q { st with t := put st.t o.dst .undef, dfs := (f, cap) :: st.dfs }
  | some (.panic v) => Q (.panic v) st
  | none => False
theorem WL_skip {ops : Array Oper} {o : Oper} {rest : List Oper} (hw : wantedV ops st.t o = false)
    (h : WL X ops rest Q { st with t := put st.t o.dst .undef }) : WL X ops (o :: rest) Q st := by
  obtain ⟨n, r, s, e, q⟩ := h
  exact ⟨n, r, s, by rw [evOps, if_neg (by simp [hw])]; exact e, q⟩
theorem WL_cons {ops : Array Oper} {o : Oper} {rest : List Oper} (hw : wantedV ops st.t o = true)
    (h : next X ops o rest Q st (evOp X st.m st.t o)) : WL X ops (o :: rest) Q st := by
  cases ho : evOp X st.m st.t o with
  | none => rw [ho] at h; exact h.elim
  | some q =>
    rw [ho] at h
    cases q with
    | val v m => obtain ⟨n, r, s, e, q⟩ := h; exact ⟨n, r, s, by rw [evOps, if_pos hw, ho]; exact e, q⟩
    | skip m => obtain ⟨n, r, s, e, q⟩ := h; exact ⟨n, r, s, by rw [evOps, if_pos hw, ho]; exact e, q⟩
    | defer f cap => obtain ⟨n, r, s, e, q⟩ := h; exact ⟨n, r, s, by rw [evOps, if_pos hw, ho]; exact e, q⟩
    | panic v => exact ⟨0, _, _, by rw [evOps, if_pos hw, ho], h⟩
    | call f args m =>
      obtain ⟨n, ⟨res, m'⟩, hc, h⟩ := h
      cases res with
      | ret v =>
        obtain ⟨n2, r, s, e, q⟩ := h
        refine ⟨max n n2, r, s, ?_, q⟩
        rw [evOps, if_pos hw, ho]
        simp only [doCall_mono (evFn_le (Nat.le_max_left n n2)) hc]
        exact evOps_mono (evFn_le (Nat.le_max_right n n2)) _ _ _ e
      | panic v => exact ⟨n, _, _, by rw [evOps, if_pos hw, ho]; simp only [hc], h⟩
end
end Go.Ev
namespace Go.Ev
theorem Trie.get_setF_same {α : Type} (a : α) : ∀ (f n : Nat) (t : Trie α), n ≤ f → (Trie.setF a f t n).get n = some a := by
  intro f
  induction f with
  | zero => intro n t h; obtain rfl : n = 0 := by omega
            cases t <;> simp [Trie.setF, Trie.get]
  | succ f ih =>
    intro n t h
    cases t with
    | nil =>
      by_cases h0 : n = 0
      · subst h0; simp [Trie.setF, Trie.get]
      · by_cases h1 : n % 2 = 1
        · simp only [Trie.setF, h0, h1, if_true, if_false, Trie.get]; exact ih _ _ (by omega)
        · simp only [Trie.setF, h0, h1, if_false, Trie.get]; exact ih _ _ (by omega)
    | node v l r =>
      by_cases h0 : n = 0
      · subst h0; simp [Trie.setF, Trie.get]
      · by_cases h1 : n % 2 = 1
        · simp only [Trie.setF, h0, h1, if_true, if_false, Trie.get]; exact ih _ _ (by omega)
        · simp only [Trie.setF, h0, h1, if_false, Trie.get]; exact ih _ _ (by omega)
theorem Trie.get_nil {α : Type} (n : Nat) : (Trie.nil : Trie α).get n = none := by cases n <;> rfl
theorem Trie.get_setF_ne {α : Type} (a : α) : ∀ (f n k : Nat) (t : Trie α), n ≤ f → k ≠ n → (Trie.setF a f t n).get k = t.get k := by
  intro f
  induction f with
  | zero =>
    intro n k t h hk
    obtain rfl : n = 0 := by omega
    cases t <;> simp [Trie.setF, Trie.get, hk, Trie.get_nil]
  | succ f ih =>
    intro n k t h hk
    cases t with
    | nil =>
      by_cases h0 : n = 0
      · subst h0; simp [Trie.setF, Trie.get, hk, Trie.get_nil]
      · by_cases h1 : n % 2 = 1
        · simp only [Trie.setF, h0, h1, if_true, if_false, Trie.get]
          by_cases k0 : k = 0
          · simp [k0]
          · by_cases k1 : k % 2 = 1
            · simp only [k0, k1, if_true, if_false]; rw [ih _ _ _ (by omega) (by omega)]; exact Trie.get_nil _
            · simp [k0, k1, Trie.get_nil]
        · simp only [Trie.setF, h0, h1, if_false, Trie.get]
          by_cases k0 : k = 0
          · simp [k0]
          · by_cases k1 : k % 2 = 1
            · simp [k0, k1, Trie.get_nil]
            · simp only [k0, k1, if_false]; rw [ih _ _ _ (by omega) (by omega)]; exact Trie.get_nil _
    | node v l r =>
      by_cases h0 : n = 0
      · subst h0; simp [Trie.setF, Trie.get, hk]
      · by_cases h1 : n % 2 = 1
        · simp only [Trie.setF, h0, h1, if_true, if_false, Trie.get]
          by_cases k0 : k = 0
          · simp [k0]
          · by_cases k1 : k % 2 = 1
            · simp only [k0, k1, if_true, if_false]; rw [ih _ _ _ (by omega) (by omega)]
            · simp [k0, k1]
        · simp only [Trie.setF, h0, h1, if_false, Trie.get]
          by_cases k0 : k = 0
          · simp [k0]
          · by_cases k1 : k % 2 = 1
            · simp [k0, k1]
            · simp only [k0, k1, if_false]; rw [ih _ _ _ (by omega) (by omega)]
theorem Trie.get_set_same {α : Type} (t : Trie α) (n : Nat) (a : α) : (t.set n a).get n = some a := Trie.get_setF_same a n n t (Nat.le_refl _)
theorem Trie.get_set_ne {α : Type} (t : Trie α) (n k : Nat) (a : α) (h : k ≠ n) : (t.set n a).get k = t.get k := Trie.get_setF_ne a n n k t (Nat.le_refl _) h
theorem Tm.get_set_same (t : Tm) (i : Nat) (v : V) : (t.set i v).get i = v := by
  simp [Tm.set, Tm.get, Trie.get_set_same]
theorem Tm.get_set_ne (t : Tm) (i k : Nat) (v : V) (h : k ≠ i) : (t.set i v).get k = t.get k := by
  simp [Tm.set, Tm.get, Trie.get_set_ne _ _ _ _ h]
theorem Tm.get_nil (i : Nat) : Tm.get Trie.nil i = .undef := by simp [Tm.get, Trie.get_nil]
theorem Rows.get_upd_same (f : Rows) (s i : Nat) (r : Row) : (f.upd s i r).get s i = r := by
  unfold Rows.get Rows.upd
  rw [Trie.get_set_same]
  cases Trie.get f s <;> simp [Trie.get_set_same]
theorem Rows.get_upd_ne (f : Rows) (s i s' i' : Nat) (r : Row) (h : ¬ (s' = s ∧ i' = i)) : (f.upd s i r).get s' i' = f.get s' i' := by
  unfold Rows.get Rows.upd
  by_cases hs : s' = s
  · subst hs
    have hi : i' ≠ i := fun e => h ⟨rfl, e⟩
    rw [Trie.get_set_same]
    cases Trie.get f s' <;> simp [Trie.get_set_ne _ _ _ _ hi, Trie.get_nil]
  · rw [Trie.get_set_ne _ _ _ _ hs]
theorem Rows.get_nil (s i : Nat) : Rows.get .nil s i = noRow := by simp [Rows.get, Trie.get_nil]
theorem wr_i64 {n : Int} (h : -9223372036854775808 ≤ n) (h' : n ≤ 9223372036854775807) : wr .i64 n = n := by simp [wr, h, h']
theorem W_seq_k {X : Env} {Q : Out → St → Prop} {st : St} {a b : Code} (h : ∀ K : St → Prop, (∀ s, W X b Q s → K s) → W X a (thenQ K Q) st) : W X (.seq a b) Q st :=
  W_seq (h _ fun _ h => h)
def endQ (X : Env) (fn : Func) (R : Res → Prop) : Out → St → Prop
  | .normal, st => st.dfs = [] ∧ ∃ vs v, resVars X st.m st.t fn.results.toList = some vs ∧ mv (X.own fn) st.m (resOf vs) = some v ∧ R (.ret v)
  | .ret, st => st.dfs = [] ∧ ∃ vs v, resVars X st.m st.t fn.results.toList = some vs ∧ mv (X.own fn) st.m (resOf vs) = some v ∧ R (.ret v)
  | .panic v, st => st.dfs = [] ∧ v.refs = false ∧ R (.panic v)
  | _, _ => False
theorem runs_of {X : Env} {f : FuncId} {fn : Func} {c : Code} {args : List V} {R : Res → Prop} (hf : X.P.funcs[f]? = some fn) (hb : fn.body = some c)
    (hok : codeOk fn.ntmps c = true ∧ args.length ≤ fn.ntmps) (h : W X c (endQ X fn R) (enter args [])) : ∃ r, Runs X f args r ∧ R r := by
  obtain ⟨n, o, s, e, q⟩ := h
  cases o with
  | normal =>
    obtain ⟨hd, vs, v, hv, hm, hR⟩ := q
    exact ⟨.ret v, ⟨_, n + 1, by rw [evFn]; simp only [hf, hb, hok, and_self, if_true, e, finish, hd, runDefers, hv, hm]; rfl⟩, hR⟩
  | ret =>
    obtain ⟨hd, vs, v, hv, hm, hR⟩ := q
    exact ⟨.ret v, ⟨_, n + 1, by rw [evFn]; simp only [hf, hb, hok, and_self, if_true, e, finish, hd, runDefers, hv, hm]; rfl⟩, hR⟩
  | panic v =>
    obtain ⟨hd, hr, hR⟩ := q
    exact ⟨.panic v, ⟨_, n + 1, by rw [evFn]; simp only [hf, hb, hok, and_self, if_true, e, finish, hd, runDefers, hr, Bool.false_eq_true, if_false]; rfl⟩, hR⟩
  | exit id => exact q.elim
end Go.Ev
namespace Go.Ev
section
variable {X : Env} {Q : Out → St → Prop}
theorem WL_nil_iff {ops : Array Oper} {st : St} : WL X ops [] Q st ↔ Q .normal st := by
  refine ⟨?_, fun h => WL_nil h⟩
  rintro ⟨n, o, s, e, q⟩
  simp only [evOps, Option.some.injEq, Prod.mk.injEq] at e
  obtain ⟨rfl, rfl⟩ := e
  exact q
theorem WL_cons_iff {ops : Array Oper} {o : Oper} {rest : List Oper} {st : St} :
    WL X ops (o :: rest) Q st ↔ if wantedV ops st.t o = true then next X ops o rest Q st (evOp X st.m st.t o) else WL X ops rest Q { st with t := put st.t o.dst .undef } := by
  constructor
  · rintro ⟨n, r, s, e, q⟩
    rw [evOps] at e
    split
    · rename_i hw
      rw [if_pos hw] at e
      cases ho : evOp X st.m st.t o with
      | none => simp [ho] at e
      | some x =>
        simp only [ho] at e
        cases x with
        | val v m => exact ⟨n, r, s, e, q⟩
        | skip m => exact ⟨n, r, s, e, q⟩
        | defer f cap => exact ⟨n, r, s, e, q⟩
        | panic v => simp only [Option.some.injEq, Prod.mk.injEq] at e; obtain ⟨rfl, rfl⟩ := e; exact q
        | call f args m =>
          simp only at e
          cases hc : doCall X (evFn X n) f args m (o.dst.getD 0) with
          | none => simp [hc] at e
          | some y =>
            obtain ⟨res, m'⟩ := y
            refine ⟨n, _, hc, ?_⟩
            cases res with
            | ret v => simp only [hc] at e; exact ⟨n, r, s, e, q⟩
            | panic v => simp only [hc, Option.some.injEq, Prod.mk.injEq] at e; obtain ⟨rfl, rfl⟩ := e; exact q
    · rename_i hw
      rw [if_neg hw] at e
      exact ⟨n, r, s, e, q⟩
  · intro h
    split at h
    · rename_i hw; exact WL_cons hw h
    · rename_i hw; exact WL_skip (by simpa using hw) h
end
theorem next_val {X : Env} {ops : Array Oper} {o : Oper} {rest : List Oper} {Q : Out → St → Prop} {st : St} {v : V} {m : Mem} :
    next X ops o rest Q st (some (.val v m)) = WL X ops rest Q { st with t := put st.t o.dst v, m } := rfl
theorem next_skip {X : Env} {ops : Array Oper} {o : Oper} {rest : List Oper} {Q : Out → St → Prop} {st : St} {m : Mem} :
    next X ops o rest Q st (some (.skip m)) = WL X ops rest Q { st with t := put st.t o.dst .undef, m } := rfl
theorem next_panic {X : Env} {ops : Array Oper} {o : Oper} {rest : List Oper} {Q : Out → St → Prop} {st : St} {v : V} :
    next X ops o rest Q st (some (.panic v)) = Q (.panic v) st := rfl
def CallQ (X : Env) (f : FuncId) (args : List V) (m : Mem) (dst : Nat) (K : V → Mem → Prop) (KP : V → Mem → Prop) : Prop :=
  ∃ n r, doCall X (evFn X n) f args m dst = some r ∧ (match r with | (.ret v, m) => K v m | (.panic v, m) => KP v m)
theorem next_call {X : Env} {ops : Array Oper} {o : Oper} {rest : List Oper} {Q : Out → St → Prop} {st : St} {f : FuncId} {args : List V} {m : Mem} :
    next X ops o rest Q st (some (.call f args m)) = CallQ X f args m (o.dst.getD 0) (fun v m => WL X ops rest Q { st with t := put st.t o.dst v, m }) (fun v m => Q (.panic v) { st with m }) := rfl
theorem thenQ_normal {k : St → Prop} {Q : Out → St → Prop} {s : St} : thenQ k Q .normal s = k s := rfl
theorem thenQ_ret {k : St → Prop} {Q : Out → St → Prop} {s : St} : thenQ k Q .ret s = Q .ret s := rfl
theorem thenQ_exit {k : St → Prop} {Q : Out → St → Prop} {s : St} {i : Nat} : thenQ k Q (.exit i) s = Q (.exit i) s := rfl
theorem thenQ_panic {k : St → Prop} {Q : Out → St → Prop} {s : St} {v : V} : thenQ k Q (.panic v) s = Q (.panic v) s := rfl
theorem blockQ_normal {id : Nat} {Q : Out → St → Prop} {s : St} : blockQ id Q .normal s = Q .normal s := rfl
theorem blockQ_ret {id : Nat} {Q : Out → St → Prop} {s : St} : blockQ id Q .ret s = Q .ret s := rfl
theorem blockQ_panic {id : Nat} {Q : Out → St → Prop} {s : St} {v : V} : blockQ id Q (.panic v) s = Q (.panic v) s := rfl
theorem blockQ_exit {id i : Nat} {Q : Out → St → Prop} {s : St} : blockQ id Q (.exit i) s = if i = id then Q .normal s else Q (.exit i) s := rfl
theorem cut_all (l : List V) : cut l 0 l.length = l := by simp [cut]
theorem get_ints (l : List Int) (i : Nat) : (l.map (V.int .i64))[i]? = l[i]?.map (V.int .i64) := by simp
end Go.Ev
namespace Go.Ev
section
variable {X : Env} {Q : Out → St → Prop} {st : St}
theorem W_region_k {id : Nat} {ops : Array Oper} (h : ∀ K : Out → St → Prop, (∀ o s, Q o s → K o s) → WL X ops ops.toList K st) : W X (.region id ops false) Q st :=
  W_region (h Q fun _ _ h => h)
theorem W_cond2 {c : Operand} {a b : Code} {t : Bool} (hc : opd X st.t c = .bool t) (h1 : t = true → W X a Q st) (h2 : t = false → W X b Q st) : W X (.cond c a b) Q st :=
  W_cond hc (by cases t with | true => exact h1 rfl | false => exact h2 rfl)
theorem W_loopg {α : Type} {c : Code} (I : α → St → Prop) (μ : α → Nat) (x0 : α) (h0 : I x0 st) (step : ∀ x s, I x s → W X c (thenQ (fun s' => ∃ y, I y s' ∧ μ y < μ x) Q) s) : W X (.loop c) Q st := by
  have key : ∀ k x s, μ x = k → I x s → W X (.loop c) Q s := by
    intro k
    induction k using Nat.strongRecOn with
    | _ k ih =>
      intro x s hk hI
      obtain ⟨n, o, s1, e, q⟩ := step x s hI
      cases o with
      | normal =>
        obtain ⟨y, hI1, hlt⟩ := q
        obtain ⟨n2, o2, s2, e2, q2⟩ := ih (μ y) (hk ▸ hlt) y s1 rfl hI1
        refine ⟨max n n2 + 1, o2, s2, ?_, q2⟩
        rw [evC, evC_le (Nat.le_max_left n n2) e]
        exact evC_le (Nat.le_max_right n n2) e2
      | _ => exact ⟨n + 1, _, s1, by rw [evC, e], q⟩
  exact key _ x0 st rfl h0
theorem W_mid {c : Code} (M : St → Prop) (h : W X c (thenQ M Q) st) (hm : ∀ s, M s → Q .normal s) : W X c Q st :=
  W_mono h fun o s h => by cases o with
    | normal => exact hm s h
    | _ => exact h
theorem thenI {k : St → Prop} (h : k st) : thenQ k Q .normal st := h
theorem thenRet {k : St → Prop} (h : Q .ret st) : thenQ k Q .ret st := h
theorem thenExit {k : St → Prop} {i : Nat} (h : Q (.exit i) st) : thenQ k Q (.exit i) st := h
theorem thenPanic {k : St → Prop} {v : V} (h : Q (.panic v) st) : thenQ k Q (.panic v) st := h
theorem blockI {id : Nat} (h : Q .normal st) : blockQ id Q .normal st := h
theorem blockRet {id : Nat} (h : Q .ret st) : blockQ id Q .ret st := h
theorem blockPanic {id : Nat} {v : V} (h : Q (.panic v) st) : blockQ id Q (.panic v) st := h
theorem blockExit {id : Nat} (h : Q .normal st) : blockQ id Q (.exit id) st := by simpa [blockQ] using h
theorem blockExitNe {id i : Nat} (hi : (i == id) = false) (h : Q (.exit i) st) : blockQ id Q (.exit i) st := by
  have : ¬ i = id := by simpa using hi
  simpa [blockQ, this] using h
end
theorem Tm.get_set (t : Tm) (i k : Nat) (v : V) : (t.set i v).get k = if k = i then v else t.get k := by
  by_cases h : k = i
  · subst h; rw [if_pos rfl, Tm.get_set_same]
  · rw [if_neg h, Tm.get_set_ne _ _ _ _ h]
theorem arr_toList {α : Type} (l : List α) : (Array.mk l).toList = l := rfl
theorem arr_get? {α : Type} (l : List α) (i : Nat) : (Array.mk l)[i]? = l[i]? := by simp
theorem ite_yes {α : Sort _} {c : Prop} [Decidable c] {a b : α} (h : c) : (if c then a else b) = a := if_pos h
theorem splice_one {cs : List V} {off : Nat} {v : V} (h : off < cs.length) : splice cs off [v] = cs.set off v := by
  unfold splice
  rw [List.length_singleton, List.append_assoc, List.singleton_append, List.set_eq_take_append_cons_drop, if_pos h]
theorem outSet_lengthW (d s i : Nat) (r : Row) : ∀ l : List Rows, (outSet l d s i r).length = l.length
  | [] => rfl
  | x :: xs => by unfold outSet; split <;> simp [outSet_lengthW d s i r xs]
theorem Mem.set_out (m : Mem) (d s i : Nat) (r : Row) : (m.set d s i r).out.length = m.out.length := by
  unfold Mem.set; split <;> simp [outSet_lengthW]
theorem Mem.new_out (m : Mem) (s i : Nat) (ty : TypeId) (arr : Bool) (es : List V) : (m.new s i ty arr es).out = m.out := rfl
theorem outRows_set {d s i d' : Nat} {row : Row} : ∀ {l : List Rows}, (outRows (outSet l d s i row) d') = (if d' = d then (outRows l d).map fun x => x.upd s i row else outRows l d')
  | [] => by simp [outSet, outRows]
  | x :: xs => by
    unfold outSet
    by_cases h : d = xs.length
    · simp only [h, if_true]
      unfold outRows
      by_cases h' : d' = xs.length
      · simp [h']
      · simp [h']
    · simp only [h, if_false]
      unfold outRows
      rw [outSet_lengthW]
      by_cases h' : d' = xs.length
      · simp only [h', if_true]
        rw [if_neg (fun e => h e.symm)]
      · simp only [h', if_false]
        rw [outRows_set]
        simp only [h, if_false]
theorem Mem.rows_setW {m : Mem} {d s i d' : Nat} {row : Row} : (m.set d s i row).rows d' = (if d' = d then (m.rows d).map fun x => x.upd s i row else m.rows d') := by
  unfold Mem.rows Mem.set
  by_cases h : d = m.out.length
  · simp only [h, if_true]
    by_cases h' : d' = m.out.length
    · simp [h']
    · simp [h']
  · simp only [h, if_false, outSet_lengthW]
    by_cases h' : d' = m.out.length
    · simp only [h', if_true]
      rw [if_neg (fun e => h e.symm)]
    · simp only [h', if_false]
      rw [outRows_set]
theorem Mem.row_set_sameW {m : Mem} {r : Ref} {row0 row : Row} (h : m.row r = some row0) {r' : Ref} (hr : r' = { r with g := row.g }) : (m.set r.d r.s r.i row).row r' = some row := by
  subst hr
  unfold Mem.row at h ⊢
  rw [Mem.rows_setW]
  simp only [if_true]
  cases hx : m.rows r.d with
  | none => simp [hx] at h
  | some x => simp [Rows.get_upd_same]
theorem Mem.row_g {m : Mem} {r : Ref} {row : Row} (h : m.row r = some row) : row.g = r.g := by
  unfold Mem.row at h
  split at h
  · split at h
    · rename_i hg; simp only [Option.some.injEq] at h; rw [← h]; exact hg
    · simp at h
  · simp at h
theorem Mem.row_set_neW {m : Mem} {d s i : Nat} {row : Row} {r : Ref} (h : ¬ (r.d = d ∧ r.s = s ∧ r.i = i)) : (m.set d s i row).row r = m.row r := by
  unfold Mem.row
  rw [Mem.rows_setW]
  by_cases hd : r.d = d
  · simp only [hd, if_true]
    cases hx : m.rows d with
    | none => simp
    | some x =>
      simp only [Option.map_some]
      rw [Rows.get_upd_ne _ _ _ _ _ _ (fun e => h ⟨hd, e.1, e.2⟩)]
  · simp only [hd, if_false]
theorem Mem.row_new_same (m : Mem) (s i : Nat) (ty : TypeId) (arr : Bool) (es : List V) : (m.new s i ty arr es).row (m.newRef s i) = some { g := (m.own.get s i).g + 1, ty, arr, fz := false, es } := by
  unfold Mem.row Mem.rows Mem.new Mem.newRef
  simp [Rows.get_upd_same]
theorem Mem.row_new_ne {m : Mem} {s i : Nat} {ty : TypeId} {arr : Bool} {es : List V} {r : Ref} (h : ¬ (r.d = m.out.length ∧ r.s = s ∧ r.i = i)) : (m.new s i ty arr es).row r = m.row r := by
  unfold Mem.row Mem.rows Mem.new
  by_cases hd : r.d = m.out.length
  · simp only [hd, if_true]
    rw [Rows.get_upd_ne _ _ _ _ _ _ (fun e => h ⟨hd, e.1, e.2⟩)]
  · simp only [hd, if_false]
end Go.Ev
namespace Go.Ev
variable {X : Env} {m : Mem} {t : Tm} {d : Option Nat} {oty : TypeId} {pos : String} {aft : Array Edge} {g : Option (Nat × Bool)}
theorem evOp_move : ∀ x, evOp X m t ⟨d, .move x, oty, pos, aft, g⟩ = (some (.val (opd X t x) m)) := fun _ => rfl
theorem evOp_assign : ∀ x, evOp X m t ⟨d, .assign x, oty, pos, aft, g⟩ = (some (.val (filled m (d.getD 0) (opd X t x)).2 (filled m (d.getD 0) (opd X t x)).1)) := fun _ => rfl
theorem evOp_pick : ∀ c a b, evOp X m t ⟨d, .pick c a b, oty, pos, aft, g⟩ = (match opd X t c with | .bool c => some (.val (if c then opd X t a else opd X t b) m) | _ => none) := fun _ _ _ => rfl
theorem evOp_alloc : ∀ ty, evOp X m t ⟨d, .alloc ty, oty, pos, aft, g⟩ = (match zeroOf X.P ty with
    | some z => some (.val (.ptr ((filled m (d.getD 0) z).1.newRef (d.getD 0) 0) 0 0) ((filled m (d.getD 0) z).1.new (d.getD 0) 0 ty false [(filled m (d.getD 0) z).2]))
    | none => none) := fun _ => rfl
theorem evOp_box : ∀ ty x, evOp X m t ⟨d, .box ty x, oty, pos, aft, g⟩ = (if ty ≠ 0 ∧ (opd X t x).ok1 = true ∧ (opd X t x).width = X.P.cellsOf ty then
      some (.val (.ptr ((filled m (d.getD 0) (opd X t x)).1.newRef (d.getD 0) 0) 0 0) ((filled m (d.getD 0) (opd X t x)).1.new (d.getD 0) 0 ty false [(filled m (d.getD 0) (opd X t x)).2])) else none) := fun _ _ => rfl
theorem evOp_build : ∀ ty parts, evOp X m t ⟨d, .build ty parts, oty, pos, aft, g⟩ = (match zeroOf X.P ty with
    | some (.agg z) =>
      match fillParts X.P ty z (parts.toList.map fun p => (p.1, opd X t p.2)) with
      | some cs => if partsOk X.P ty = true then some (.val (filled m (d.getD 0) (.agg cs)).2 (filled m (d.getD 0) (.agg cs)).1) else none
      | none => none
    | _ => none) := fun _ _ => rfl
theorem evOp_buildSlice : ∀ ty n parts, evOp X m t ⟨d, .buildSlice ty n parts, oty, pos, aft, g⟩ = (match slElem X.P ty with
    | some e =>
      match zeroOf X.P e, snaps m (parts.toList.map fun p => opd X t p.2) with
      | some z, some vs =>
        match snap m z with
        | some z =>
          if z.width = X.P.cellsOf e ∧ n * X.P.cellsOf e ≤ 2 ^ 20 ∧ vs.all elemOk = true ∧ elemOk z = true ∧ z.ok1 = true then
            match fillElems (X.P.cellsOf e) (List.replicate n z) ((parts.toList.map (·.1)).zip vs) with
            | some es =>
              some (.val (.rs ((frzs m (parts.toList.map fun p => opd X t p.2)).newRef (d.getD 0) 0) e 0 n) ((frzs m (parts.toList.map fun p => opd X t p.2)).new (d.getD 0) 0 e true es))
            | none => none
          else none
        | none => none
      | _, _ => none
    | none => none) := fun _ _ _ => rfl
theorem evOp_load : ∀ ty a, evOp X m t ⟨d, .load ty a, oty, pos, aft, g⟩ = (match opd X t a with
    | .ptr r j off =>
      match m.row r with
      | some row => match row.es[j]? with | some e => (pick X.P ty row.ty e off).map fun v => .val v m | none => none
      | none => none
    | .cptr e ety off => (pick X.P ty ety e off).map fun v => .val v m
    | _ => none) := fun _ _ => rfl
theorem evOp_store : ∀ ty a x, evOp X m t ⟨d, .store ty a x, oty, pos, aft, g⟩ = (match opd X t a with
    | .ptr r j off =>
      match m.row r with
      | some row =>
        if row.arr then
          match snap m (opd X t x) with
          | some v =>
            match (frz m (opd X t x)).row r with
            | some row =>
              if row.fz = false ∧ elemOk v = true ∧ v.ok1 = true ∧ okT X.P ty = true then
                match setElem X.P row j off ty v with
                | some row' => some (.skip ((frz m (opd X t x)).set r.d r.s r.i row'))
                | none => none
              else none
            | none => none
          | none => none
        else
          match (unNil m r off (opd X t x)).1.row r with
          | some row =>
            if row.fz = false ∧ row.arr = false ∧ (unNil m r off (opd X t x)).2.depthOk r.d = true ∧ (unNil m r off (opd X t x)).2.ok1 = true ∧ okT X.P ty = true then
              match setElem X.P row j off ty (unNil m r off (opd X t x)).2 with
              | some row' => some (.skip ((unNil m r off (opd X t x)).1.set r.d r.s r.i row'))
              | none => none
            else none
          | none => none
      | none => none
    | _ => none) := fun _ _ _ => rfl
theorem evOp_nilCheck : ∀ x, evOp X m t ⟨d, .nilCheck x, oty, pos, aft, g⟩ = (match opd X t x with
    | .ptr r j off => some (.val (.ptr r j off) m)
    | .cptr e ty off => some (.val (.cptr e ty off) m)
    | .fn f a b => some (.val (.fn f a b) m)
    | _ => none) := fun _ => rfl
theorem evOp_binOp : ∀ op ty x y u1, evOp X m t ⟨d, .binOp op ty x y u1, oty, pos, aft, g⟩ = ((bin X.P op ty (isConst x) (isConst y) (opd X t x) (opd X t y)).map fun v => .val v m) := fun _ _ _ _ _ => rfl
theorem evOp_unOp : ∀ op u1 x, evOp X m t ⟨d, .unOp op u1 x, oty, pos, aft, g⟩ = ((un op (opd X t x)).map fun v => .val v m) := fun _ _ _ => rfl
theorem evOp_convert : ∀ src dst x, evOp X m t ⟨d, .convert src dst x, oty, pos, aft, g⟩ = (match X.P.underlying src, X.P.underlying dst, opd X t x with
    | some _, some (.int k), .int _ n => some (.val (.int k (wr k n)) m)
    | _, _, _ => none) := fun _ _ _ => rfl
theorem evOp_makeInterface : ∀ ty x, evOp X m t ⟨d, .makeInterface ty x, oty, pos, aft, g⟩ = (match X.P.underlying ty, opd X t x with
    | some (.int _), .int k n => some (.val (.ifc ty (.int k n)) m)
    | some .string, .str s => some (.val (.ifc ty (.str s)) m)
    | _, _ => none) := fun _ _ => rfl
theorem evOp_makeFunc : ∀ f first cap, evOp X m t ⟨d, .makeFunc (.func f) first cap, oty, pos, aft, g⟩ = (match snaps m (mapOpd X t first.toList) with
    | some fs => if fs.all elemOk = true ∧ fs.all V.ok1 = true then some (.val (.fn f fs (mapOpd X t cap.toList)) (frzs m (mapOpd X t first.toList))) else none
    | none => none) := fun _ _ _ => rfl
theorem evOp_makeSlice : ∀ ty l c, evOp X m t ⟨d, .makeSlice ty l c, oty, pos, aft, g⟩ = (match slElem X.P ty, opd X t l, opd X t c with
    | some e, .int .i64 n, .int .i64 k =>
      match zeroOf X.P e with
      | some z =>
        match snap m z with
        | some z =>
          if 0 ≤ n ∧ n ≤ k ∧ k.toNat * (X.P.bytesOf e + X.P.cellsOf e + 1) ≤ maxLen ∧ z.width = X.P.cellsOf e ∧ elemOk z = true ∧ z.ok1 = true then
            some (.val (.rs (m.newRef (d.getD 0) 0) e 0 n.toNat) (m.new (d.getD 0) 0 e true (List.replicate n.toNat z)))
          else none
        | none => none
      | none => none
    | _, _, _ => none) := fun _ _ _ => rfl
theorem evOp_slice : ∀ ty x lo hi, evOp X m t ⟨d, .slice ty x lo hi none, oty, pos, aft, g⟩ = (match opd X t x with
    | .str s =>
      match X.P.underlying ty, bounds s.length (lo.map (opd X t)) (hi.map (opd X t)) with
      | some .string, some p => some (.val (.str ((s.drop p.1).take (p.2 - p.1))) m)
      | _, _ => none
    | .sl es =>
      match slElem X.P ty, bounds es.length (lo.map (opd X t)) (hi.map (opd X t)) with
      | some e, some p => if es.all (fun v => decide (v.width = X.P.cellsOf e)) = true ∧ okT X.P e = true then some (.val (.sl (cut es p.1 (p.2 - p.1))) m) else none
      | _, _ => none
    | .rs r rty off len =>
      match slElem X.P ty, bounds len (lo.map (opd X t)) (hi.map (opd X t)) with
      | some e, some p => if (rty = e ∨ p.1 = 0) ∧ okT X.P e = true then some (.val (.rs r rty (off + p.1) (p.2 - p.1)) m) else none
      | _, _ => none
    | .nilS =>
      match slElem X.P ty, bounds 0 (lo.map (opd X t)) (hi.map (opd X t)) with
      | some e, some _ => if okT X.P e = true then some (.val .nilS m) else none
      | _, _ => none
    | _ => none) := fun _ _ _ _ => rfl
theorem evOp_fieldAddr : ∀ ty x f, evOp X m t ⟨d, .fieldAddr ty x f, oty, pos, aft, g⟩ = (match X.P.underlying ty with
    | some (.struct fs) =>
      match fs[f]? with
      | some fd =>
        if X.P.cellsOf fd.type = 0 then none else
        match opd X t x with
        | .ptr r j off => some (.val (.ptr r j (off + fd.offset)) m)
        | .cptr e ety off => some (.val (.cptr e ety (off + fd.offset)) m)
        | _ => none
      | none => none
    | _ => none) := fun _ _ _ => rfl
theorem evOp_field : ∀ ty x f, evOp X m t ⟨d, .field ty x f, oty, pos, aft, g⟩ = (match X.P.underlying ty with
    | some (.struct fs) =>
      match fs[f]?, opd X t x with
      | some fd, .agg cs => (part X.P fd.type cs fd.offset).map fun v => .val v m
      | _, _ => none
    | _ => none) := fun _ _ _ => rfl
theorem evOp_indexAddr : ∀ ty x i, evOp X m t ⟨d, .indexAddr ty x i, oty, pos, aft, g⟩ = (match idx (opd X t i), X.P.underlying ty with
    | some i, some (.slice e) =>
      match opd X t x with
      | .rs r rty off len => if 0 ≤ i ∧ i < len ∧ rty = e ∧ okT X.P e = true then some (.val (.ptr r (off + i.toNat) 0) m) else none
      | .sl es =>
        if 0 ≤ i then
          match es[i.toNat]? with
          | some v => if v.width = X.P.cellsOf e ∧ okT X.P e = true then some (.val (.cptr v e 0) m) else none
          | none => none
        else none
      | _ => none
    | some i, some (.array n e) =>
      if 0 ≤ i ∧ i < n ∧ okT X.P e = true then
        match opd X t x with
        | .ptr r j off => some (.val (.ptr r j (off + i.toNat * X.P.cellsOf e)) m)
        | .cptr v ety off => some (.val (.cptr v ety (off + i.toNat * X.P.cellsOf e)) m)
        | _ => none
      else none
    | _, _ => none) := fun _ _ _ => rfl
theorem evOp_index : ∀ ty x i, evOp X m t ⟨d, .index ty x i, oty, pos, aft, g⟩ = (match idx (opd X t i), X.P.underlying ty, opd X t x with
    | some i, some .string, .str s => if 0 ≤ i then (match s[i.toNat]? with | some b => some (.val (.int .u8 b.toNat) m) | none => none) else none
    | some i, some (.array n e), .agg cs => if 0 ≤ i ∧ i < n then (part X.P e cs (i.toNat * X.P.cellsOf e)).map fun v => .val v m else none
    | _, _, _ => none) := fun _ _ _ => rfl
theorem evOp_extract : ∀ x i, evOp X m t ⟨d, .extract x i, oty, pos, aft, g⟩ = (match opd X t x with | .tup vs => (vs[i]?).map fun v => .val v m | _ => none) := fun _ _ => rfl
theorem evOp_typeAssert : ∀ x xt ty ok, evOp X m t ⟨d, .typeAssert x xt ty ok, oty, pos, aft, g⟩ = (match X.P.underlying xt, X.P.underlying ty, opd X t x, ok with
    | some (.interface _), some (.int _), .ifc ty' v, true =>
      if ty' = ty then some (.val (.tup [v, .bool true]) m)
      else match zeroOf X.P ty with | some z => some (.val (.tup [z, .bool false]) m) | none => none
    | _, _, _, _ => none) := fun _ _ _ _ => rfl
theorem evOp_call : ∀ c, evOp X m t ⟨d, .call c, oty, pos, aft, g⟩ = (match c.callee with
    | .builtin b => builtin X m (d.getD 0) b c.argTypes (mapOpd X t c.args.toList)
    | .value f =>
      match calleeOf (opd X t f) with
      | some (f, first, cap) =>
        match snaps m (mapOpd X t c.args.toList) with
        | some az => if callOk X.P f then some (.call f (first ++ az ++ cap) (if scalarRes X.P f = true ∧ (first ++ az ++ cap).any V.refs = false then m else frzs m (mapOpd X t c.args.toList))) else none
        | none => none
      | none => none
    | _ => none) := fun _ => rfl
theorem evOp_defer : ∀ c, evOp X m t ⟨d, .defer c, oty, pos, aft, g⟩ = (match c.callee with
    | .value f =>
      match calleeOf (opd X t f), c.args.toList with
      | some (f, [], cap), [] => some (.defer f cap)
      | _, _ => none
    | _ => none) := fun _ => rfl
theorem evOp_panic : ∀ x, evOp X m t ⟨d, .panic x, oty, pos, aft, g⟩ = (match opd X t x with | .ifc ty v => some (.panic (.ifc ty v)) | _ => none) := fun _ => rfl
end Go.Ev
namespace Go.Ev
theorem evFn_det {X : Env} {n k : Nat} {f : FuncId} {args : List V} {out : List Rows} {r r' : Res × List Rows} (h : evFn X n f args out = some r) (h' : evFn X k f args out = some r') : r = r' := by
  have h1 := evFn_le (Nat.le_max_left n k) _ _ _ _ h
  have h2 := evFn_le (Nat.le_max_right n k) _ _ _ _ h'
  rw [h1] at h2; exact Option.some.inj h2
def resPlain : Res → Bool
  | .ret v => v.plain
  | .panic v => v.plain1
def V.still : V → Bool
  | .own .. => false
  | .agg cs => !cs.any V.transit
  | .tup vs => vs.all fun | .own .. => false | .agg cs => !cs.any V.transit | _ => true
  | _ => true
theorem inst1_still {m : Mem} {d i : Nat} {v : V} (h : v.transit = false) : inst1 m d i v = (m, v) := by
  cases v <;> first | rfl | simp [V.transit] at h
theorem inst2_still {m : Mem} {d i : Nat} {v : V} (h : (match v with | .own .. => false | .agg cs => !cs.any V.transit | _ => true) = true) : inst2 m d i v = (m, v) := by
  cases v with
  | agg cs => simp only [inst2]; rw [if_neg (by simpa using h)]
  | own es ty => simp at h
  | _ => rfl
theorem inst2s_still {m : Mem} {d : Nat} : ∀ {vs : List V} {i : Nat}, (vs.all fun | .own .. => false | .agg cs => !cs.any V.transit | _ => true) = true → inst2s m d i vs = (m, vs)
  | [], _, _ => rfl
  | v :: vs, i, h => by
    simp only [List.all_cons, Bool.and_eq_true] at h
    simp only [inst2s, inst2_still h.1, inst2s_still h.2]
theorem install_still {m : Mem} {d : Nat} {v : V} (h : v.still = true) : install m d v = (m, v) := by
  cases v with
  | tup vs => simp only [install, inst2s_still (by simpa [V.still] using h)]
  | agg cs => exact inst2_still (v := .agg cs) h
  | own es ty => simp [V.still] at h
  | _ => rfl
structure Ans (X : Env) (f : FuncId) (args : List V) (r : Res) : Prop where
  ext : X.ext f args = none
  loose : args.any V.refs = false
  plain : scalarRes X.P f = true → resPlain r = true
  still : ∀ v, r = .ret v → v.still = true
  runs : Runs X f args r
theorem Ans.iff {X : Env} {f : FuncId} {args : List V} {v : V} (h : Ans X f args (.ret v)) {m : Mem} {dst : Nat} {K KP : V → Mem → Prop} : CallQ X f args m dst K KP ↔ K v m := by
  have hi := install_still (m := m) (d := dst) (h.still v rfl)
  have hp : scalarRes X.P f = true → v.plain = true := h.plain
  obtain ⟨out, k, e⟩ := h.runs
  constructor
  · rintro ⟨n, r, hd, hk⟩
    unfold doCall at hd
    simp only [h.ext, h.loose, Bool.false_eq_true, if_false] at hd
    cases hc : evFn X n f args [] with
    | none => simp [hc] at hd
    | some q =>
      have := evFn_det hc e
      subst this
      simp only [hc, hi, if_pos hp, Option.some.injEq] at hd
      subst hd
      exact hk
  · intro hk
    refine ⟨k, (.ret v, m), ?_, hk⟩
    unfold doCall
    simp only [h.ext, h.loose, Bool.false_eq_true, if_false, e, hi, if_pos hp]
theorem Ans.panics {X : Env} {f : FuncId} {args : List V} {v : V} (h : Ans X f args (.panic v)) {m : Mem} {dst : Nat} {K KP : V → Mem → Prop} : CallQ X f args m dst K KP ↔ KP v m := by
  have hp : scalarRes X.P f = true → v.plain1 = true := h.plain
  obtain ⟨out, k, e⟩ := h.runs
  constructor
  · rintro ⟨n, r, hd, hk⟩
    unfold doCall at hd
    simp only [h.ext, h.loose, Bool.false_eq_true, if_false] at hd
    cases hc : evFn X n f args [] with
    | none => simp [hc] at hd
    | some q =>
      have := evFn_det hc e
      subst this
      simp only [hc, if_pos hp, Option.some.injEq] at hd
      subst hd
      exact hk
  · intro hk
    refine ⟨k, (.panic v, m), ?_, hk⟩
    unfold doCall
    simp only [h.ext, h.loose, Bool.false_eq_true, if_false, e, if_pos hp]
theorem ext_iff {X : Env} {f : FuncId} {args : List V} {v : V} (h : X.ext f args = some v) (hr : args.any V.refs = false) (hp : scalarRes X.P f = true → v.plain = true) (hs : v.still = true)
    {m : Mem} {dst : Nat} {K KP : V → Mem → Prop} : CallQ X f args m dst K KP ↔ K v m := by
  have hi := install_still (m := m) (d := dst) hs
  constructor
  · rintro ⟨n, r, hd, hk⟩
    unfold doCall at hd
    simp only [h, hr, hi, true_and, if_pos hp, Option.some.injEq] at hd
    subst hd
    exact hk
  · intro hk
    exact ⟨0, (.ret v, m), by unfold doCall; simp only [h, hr, hi, true_and, if_pos hp], hk⟩
theorem snap_int (m : Mem) (k : IntKind) (n : Int) : snap m (.int k n) = some (.int k n) := rfl
theorem snap_bool (m : Mem) (b : Bool) : snap m (.bool b) = some (.bool b) := rfl
theorem snap_str (m : Mem) (s : List UInt8) : snap m (.str s) = some (.str s) := rfl
theorem snap_sl (m : Mem) (es : List V) : snap m (.sl es) = some (.sl es) := rfl
theorem snap_nilS (m : Mem) : snap m .nilS = some (.sl []) := rfl
theorem snap_ifc (m : Mem) (t : TypeId) (v : V) : snap m (.ifc t v) = some (.ifc t v) := rfl
theorem snap_nilI (m : Mem) : snap m .nilI = some .nilI := rfl
theorem snap_rs (m : Mem) (r : Ref) (ty : TypeId) (off len : Nat) : snap m (.rs r ty off len) = match m.row r with | some row => if row.arr = true ∧ off + len ≤ row.es.length then some (.sl (cut row.es off len)) else none | none => none := rfl
theorem snap_ptr (m : Mem) (r : Ref) (j off : Nat) : snap m (.ptr r j off) = some (.ptr r j off) := rfl
theorem snap_cptr (m : Mem) (e : V) (ty : TypeId) (off : Nat) : snap m (.cptr e ty off) = some (.cptr e ty off) := rfl
theorem snap_fn (m : Mem) (f : FuncId) (a b : List V) : snap m (.fn f a b) = some (.fn f a b) := rfl
theorem snap_agg (m : Mem) {cs : List V} (h : cs.any V.loose = false) : snap m (.agg cs) = some (.agg cs) := by simp [snap, h]
theorem snaps_nil (m : Mem) : snaps m [] = some [] := rfl
theorem snaps_cons (m : Mem) (v : V) (vs : List V) : snaps m (v :: vs) = match snap m v, snaps m vs with | some x, some xs => some (x :: xs) | _, _ => none := rfl
theorem frz_int (m : Mem) (k : IntKind) (n : Int) : frz m (.int k n) = m := rfl
theorem frz_bool (m : Mem) (b : Bool) : frz m (.bool b) = m := rfl
theorem frz_str (m : Mem) (s : List UInt8) : frz m (.str s) = m := rfl
theorem frz_sl (m : Mem) (es : List V) : frz m (.sl es) = m := rfl
theorem frz_nilS (m : Mem) : frz m .nilS = m := rfl
theorem frz_ifc (m : Mem) (t : TypeId) (v : V) : frz m (.ifc t v) = m := rfl
theorem frz_nilI (m : Mem) : frz m .nilI = m := rfl
theorem frz_ptr (m : Mem) (r : Ref) (j off : Nat) : frz m (.ptr r j off) = m := rfl
theorem frz_cptr (m : Mem) (e : V) (ty : TypeId) (off : Nat) : frz m (.cptr e ty off) = m := rfl
theorem frz_fn (m : Mem) (f : FuncId) (a b : List V) : frz m (.fn f a b) = m := rfl
theorem frz_rs (m : Mem) (r : Ref) (ty : TypeId) (off len : Nat) : frz m (.rs r ty off len) = match m.row r with | some row => if row.arr then m.set r.d r.s r.i { row with fz := true } else m | none => m := rfl
theorem frz_agg (m : Mem) {cs : List V} (h : cs.any V.loose = false) : frz m (.agg cs) = m := by simp [frz, h]
theorem frzs_nil (m : Mem) : frzs m [] = m := rfl
theorem frzs_cons (m : Mem) (v : V) (vs : List V) : frzs m (v :: vs) = frzs (frz m v) vs := rfl
theorem filled_int (m : Mem) (s : Nat) (k : IntKind) (n : Int) : filled m s (.int k n) = (m, .int k n) := rfl
theorem filled_bool (m : Mem) (s : Nat) (b : Bool) : filled m s (.bool b) = (m, .bool b) := rfl
theorem filled_str (m : Mem) (s : Nat) (b : List UInt8) : filled m s (.str b) = (m, .str b) := rfl
theorem filled_sl (m : Mem) (s : Nat) (es : List V) : filled m s (.sl es) = (m, .sl es) := rfl
theorem filled_ifc (m : Mem) (s : Nat) (t : TypeId) (v : V) : filled m s (.ifc t v) = (m, .ifc t v) := rfl
theorem filled_nilI (m : Mem) (s : Nat) : filled m s .nilI = (m, .nilI) := rfl
theorem filled_rs (m : Mem) (s : Nat) (r : Ref) (ty : TypeId) (off len : Nat) : filled m s (.rs r ty off len) = (m, .rs r ty off len) := rfl
theorem filled_ptr (m : Mem) (s : Nat) (r : Ref) (j off : Nat) : filled m s (.ptr r j off) = (m, .ptr r j off) := rfl
theorem filled_fn (m : Mem) (s : Nat) (f : FuncId) (a b : List V) : filled m s (.fn f a b) = (m, .fn f a b) := rfl
theorem filled_nilS (m : Mem) (s : Nat) : filled m s .nilS = (m.new s 1 0 true [], .rs (m.newRef s 1) 0 0 0) := rfl
theorem filled_agg (m : Mem) (s : Nat) {cs : List V} (h : cs.any V.isNilS = false) : filled m s (.agg cs) = (m, .agg cs) := by simp [filled, h]
theorem mv_int (m : Mem) (k : IntKind) (n : Int) : mv false m (.int k n) = some (.int k n) := rfl
theorem mv_bool (m : Mem) (b : Bool) : mv false m (.bool b) = some (.bool b) := rfl
theorem mv_str (m : Mem) (s : List UInt8) : mv false m (.str s) = some (.str s) := rfl
theorem mv_sl (m : Mem) (es : List V) : mv false m (.sl es) = some (.sl es) := rfl
theorem mv_nilS (m : Mem) : mv false m .nilS = some (.sl []) := rfl
theorem mv2_int (m : Mem) (k : IntKind) (n : Int) : mv2 m false (.int k n) = some (.int k n) := rfl
theorem mv2_bool (m : Mem) (b : Bool) : mv2 m false (.bool b) = some (.bool b) := rfl
theorem mv2_str (m : Mem) (s : List UInt8) : mv2 m false (.str s) = some (.str s) := rfl
theorem mv2_sl (m : Mem) (es : List V) : mv2 m false (.sl es) = some (.sl es) := rfl
theorem mv2_nilS (m : Mem) : mv2 m false .nilS = some (.sl []) := rfl
theorem mv2_rs {m : Mem} {r : Ref} {row : Row} (h : m.row r = some row) (ty : TypeId) (off len : Nat) : mv2 m false (.rs r ty off len) = if row.arr = true ∧ off + len ≤ row.es.length then some (.sl (cut row.es off len)) else none := by
  simp [mv2, mv1, h, owned]
theorem mv_rs {m : Mem} {r : Ref} {row : Row} (h : m.row r = some row) (ty : TypeId) (off len : Nat) : mv false m (.rs r ty off len) = if row.arr = true ∧ off + len ≤ row.es.length then some (.sl (cut row.es off len)) else none :=
  mv2_rs h ty off len
theorem mv2_agg (m : Mem) {cs : List V} (h : cs.any V.loose = false) : mv2 m false (.agg cs) = some (.agg cs) := by simp [mv2, h]
theorem mv_agg (m : Mem) {cs : List V} (h : cs.any V.loose = false) : mv false m (.agg cs) = some (.agg cs) := mv2_agg m h
theorem mv_tup (m : Mem) (vs : List V) : mv false m (.tup vs) = (mv2s m false vs).map .tup := rfl
theorem mv2s_nil (m : Mem) : mv2s m false [] = some [] := rfl
theorem mv2s_cons (m : Mem) (v : V) (vs : List V) : mv2s m false (v :: vs) = match mv2 m false v, mv2s m false vs with | some x, some xs => some (x :: xs) | _, _ => none := rfl
theorem end_ret {X : Env} {fn : Func} {st : St} {vs : List V} {v : V} (hd : st.dfs = []) (h : resVars X st.m st.t fn.results.toList = some vs) (h2 : mv (X.own fn) st.m (resOf vs) = some v) : endQ X fn (fun r => r = .ret v) .ret st :=
  ⟨hd, vs, v, h, h2, rfl⟩
theorem end_normal {X : Env} {fn : Func} {st : St} {vs : List V} {v : V} (hd : st.dfs = []) (h : resVars X st.m st.t fn.results.toList = some vs) (h2 : mv (X.own fn) st.m (resOf vs) = some v) : endQ X fn (fun r => r = .ret v) .normal st :=
  ⟨hd, vs, v, h, h2, rfl⟩
theorem end_panic {X : Env} {fn : Func} {st : St} {v : V} (hd : st.dfs = []) (h : v.refs = false) : endQ X fn (fun r => r = .panic v) (.panic v) st := ⟨hd, h, rfl⟩
theorem call_of {X : Env} {f : FuncId} {fn : Func} {c : Code} {args : List V} {r : Res} (hf : X.P.funcs[f]? = some fn) (hb : fn.body = some c) (hok : codeOk fn.ntmps c = true ∧ args.length ≤ fn.ntmps)
    (ext : X.ext f args = none) (loose : args.any V.refs = false) (plain : scalarRes X.P f = true → resPlain r = true) (still : ∀ v, r = .ret v → v.still = true)
    (h : ∀ s : St, s = enter args [] → s.dfs = [] → s.m.out = [] → W X c (endQ X fn (fun r' => r' = r)) s) : Ans X f args r := by
  refine ⟨ext, loose, plain, still, ?_⟩
  obtain ⟨r', hr, rfl⟩ := runs_of hf hb hok (h _ rfl rfl rfl)
  exact hr
end Go.Ev
namespace Go.Ev
def WD (X : Env) (ops : Array Oper) (ds : List (List Nat)) (i : Nat) (fs : List Foot) (l : List Oper) (Q : Out → St → Prop) (st : St) : Prop :=
  ∃ n st', evOpsD X (evFn X n) ops ds i fs l st = some st' ∧ Q .normal st'
theorem W_draw_k {X : Env} {Q : Out → St → Prop} {st : St} {id : Nat} {ops : Array Oper} (hd : drawOk ops = true)
    (h : ∀ K : Out → St → Prop, (∀ o s, Q o s → K o s) → WD X ops (deps ops.toList) 0 [] ops.toList K st) : W X (.region id ops true) Q st := by
  obtain ⟨n, s, e, q⟩ := h Q fun _ _ h => h
  exact ⟨n + 1, .normal, s, by simp only [evC, hd, if_true, e], q⟩
def nextD (X : Env) (ops : Array Oper) (ds : List (List Nat)) (i : Nat) (fs : List Foot) (o : Oper) (rest : List Oper) (Q : Out → St → Prop) (st : St) : Option OpR → Prop
  | some (.val v m) => WD X ops ds i fs rest Q { st with t := put st.t o.dst v, m }
  | some (.skip m) => WD X ops ds i fs rest Q { st with t := put st.t o.dst .undef, m }
  | some (.call f args m) => CallQ X f args m (o.dst.getD 0) (fun v m => WD X ops ds i fs rest Q { st with t := put st.t o.dst v, m }) (fun _ _ => False)
  | _ => False
def fok (ds : List (List Nat)) (i : Nat) (fs : List Foot) (f : Foot) : Bool := f.idle || (fs.zipIdx.all fun p => comparable ds p.2 i || p.1.ok f)
section
variable {X : Env} {Q : Out → St → Prop} {ops : Array Oper} {ds : List (List Nat)} {i : Nat} {fs : List Foot}
theorem WD_nil {st : St} : WD X ops ds i fs [] Q st ↔ Q .normal st := by
  constructor
  · rintro ⟨n, s, e, q⟩; simp only [evOpsD, Option.some.injEq] at e; subst e; exact q
  · intro h; exact ⟨0, st, rfl, h⟩
theorem WD_cons {o : Oper} {rest : List Oper} {st : St} :
    WD X ops ds i fs (o :: rest) Q st ↔ fok ds i fs (footD X ops o st) = true ∧
      (if wantedV ops st.t o = true then nextD X ops ds (i + 1) (fs ++ [footD X ops o st]) o rest Q st (evOp X st.m st.t o) else WD X ops ds (i + 1) (fs ++ [footD X ops o st]) rest Q { st with t := put st.t o.dst .undef }) := by
  constructor
  · rintro ⟨n, s, e, q⟩
    rw [evOpsD] at e
    split at e
    · rename_i hf
      refine ⟨hf, ?_⟩
      unfold stepD at e
      by_cases hw : wantedV ops st.t o = true
      · rw [if_pos hw] at e ⊢
        unfold memStep at e
        cases ho : evOp X st.m st.t o with
        | none => simp [ho] at e
        | some r =>
          cases r with
          | val v m => simp only [ho] at e; exact ⟨n, s, e, q⟩
          | skip m => simp only [ho] at e; exact ⟨n, s, e, q⟩
          | call f args m =>
            simp only [ho] at e
            cases hc : doCall X (evFn X n) f args m (o.dst.getD 0) with
            | none => simp [hc] at e
            | some y =>
              obtain ⟨res, m'⟩ := y
              cases res with
              | ret v => simp only [hc] at e; exact ⟨n, _, hc, n, s, e, q⟩
              | panic v => simp [hc] at e
          | defer f c => simp [ho] at e
          | panic v => simp [ho] at e
      · rw [if_neg hw] at e ⊢
        exact ⟨n, s, e, q⟩
    · simp at e
  · rintro ⟨hf, h⟩
    unfold fok at hf
    by_cases hw : wantedV ops st.t o = true
    · rw [if_pos hw] at h
      cases ho : evOp X st.m st.t o with
      | none => rw [ho] at h; exact h.elim
      | some r =>
        rw [ho] at h
        cases r with
        | val v m =>
          obtain ⟨n, s, e, q⟩ := h
          refine ⟨n, s, ?_, q⟩
          rw [evOpsD, if_pos hf]
          unfold stepD memStep
          rw [if_pos hw, ho]; exact e
        | skip m =>
          obtain ⟨n, s, e, q⟩ := h
          refine ⟨n, s, ?_, q⟩
          rw [evOpsD, if_pos hf]
          unfold stepD memStep
          rw [if_pos hw, ho]; exact e
        | call f args m =>
          obtain ⟨n, ⟨res, m'⟩, hc, h⟩ := h
          cases res with
          | panic v => exact h.elim
          | ret v =>
            obtain ⟨n2, s, e, q⟩ := h
            refine ⟨max n n2, s, ?_, q⟩
            rw [evOpsD, if_pos hf]
            unfold stepD memStep
            rw [if_pos hw, ho]
            simp only [doCall_mono (evFn_le (Nat.le_max_left n n2)) hc]
            exact evOpsD_mono (evFn_le (Nat.le_max_right n n2)) _ _ _ _ _ e
        | defer f c => exact h.elim
        | panic v => exact h.elim
    · rw [if_neg hw] at h
      obtain ⟨n, s, e, q⟩ := h
      refine ⟨n, s, ?_, q⟩
      rw [evOpsD, if_pos hf]
      unfold stepD
      rw [if_neg hw]; exact e
theorem nextD_val {o : Oper} {rest : List Oper} {st : St} {v : V} {m : Mem} : nextD X ops ds i fs o rest Q st (some (.val v m)) = WD X ops ds i fs rest Q { st with t := put st.t o.dst v, m } := rfl
theorem nextD_skip {o : Oper} {rest : List Oper} {st : St} {m : Mem} : nextD X ops ds i fs o rest Q st (some (.skip m)) = WD X ops ds i fs rest Q { st with t := put st.t o.dst .undef, m } := rfl
theorem nextD_call {o : Oper} {rest : List Oper} {st : St} {f : FuncId} {args : List V} {m : Mem} :
    nextD X ops ds i fs o rest Q st (some (.call f args m)) = CallQ X f args m (o.dst.getD 0) (fun v m => WD X ops ds i fs rest Q { st with t := put st.t o.dst v, m }) (fun _ _ => False) := rfl
end
theorem footD_def {X : Env} {ops : Array Oper} {o : Oper} {st : St} : footD X ops o st = if wantedV ops st.t o then foot X st o else Foot.none := rfl
theorem fok_idle (ds : List (List Nat)) (i : Nat) (fs : List Foot) : fok ds i fs ⟨[], [], [], false⟩ = true := rfl
theorem Foot_none : Foot.none = ⟨[], [], [], false⟩ := rfl
section
variable {X : Env} {st : St} {d : Option Nat} {oty : TypeId} {pos : String} {aft : Array Edge} {g : Option (Nat × Bool)}
theorem foot_load {ty : TypeId} {a : Operand} : foot X st ⟨d, .load ty a, oty, pos, aft, g⟩ = ⟨rowsOf (opd X st.t a), [], [], false⟩ := rfl
theorem foot_store {ty : TypeId} {a x : Operand} : foot X st ⟨d, .store ty a x, oty, pos, aft, g⟩ = ⟨[], rowsOf (opd X st.t x), rowsOf (opd X st.t a), false⟩ := rfl
theorem foot_assign {x : Operand} : foot X st ⟨d, .assign x, oty, pos, aft, g⟩ = ⟨[], [], if (opd X st.t x).refs then [(st.m.out.length, d.getD 0)] else [], false⟩ := rfl
theorem foot_alloc {ty : TypeId} : foot X st ⟨d, .alloc ty, oty, pos, aft, g⟩ = ⟨[], [], [(st.m.out.length, d.getD 0)], false⟩ := rfl
theorem foot_box {ty : TypeId} {x : Operand} : foot X st ⟨d, .box ty x, oty, pos, aft, g⟩ = ⟨[], [], [(st.m.out.length, d.getD 0)], false⟩ := rfl
theorem foot_build {ty : TypeId} {ps : Array (Nat × Operand)} : foot X st ⟨d, .build ty ps, oty, pos, aft, g⟩ = ⟨[], [], [(st.m.out.length, d.getD 0)], false⟩ := rfl
theorem foot_makeSlice {ty : TypeId} {x y : Operand} : foot X st ⟨d, .makeSlice ty x y, oty, pos, aft, g⟩ = ⟨[], [], [(st.m.out.length, d.getD 0)], false⟩ := rfl
theorem foot_buildSlice {ty : TypeId} {n : Nat} {ps : Array (Nat × Operand)} : foot X st ⟨d, .buildSlice ty n ps, oty, pos, aft, g⟩ = ⟨[], (ps.toList.map fun p => opd X st.t p.2).flatMap rowsOf, [(st.m.out.length, d.getD 0)], false⟩ := rfl
theorem foot_makeFunc {f : Fn} {a b : Array Operand} : foot X st ⟨d, .makeFunc f a b, oty, pos, aft, g⟩ = ⟨[], (mapOpd X st.t a.toList).flatMap rowsOf, [], false⟩ := rfl
theorem foot_append {args : Array Operand} {tys : Array TypeId} : foot X st ⟨d, .call ⟨.builtin .append, args, tys⟩, oty, pos, aft, g⟩ =
    match mapOpd X st.t args.toList with | [s, x] => ⟨rowsOf x, [], (st.m.out.length, d.getD 0) :: rowsOf s, false⟩ | _ => ⟨[], [], [], true⟩ := rfl
theorem foot_len {args : Array Operand} {tys : Array TypeId} : foot X st ⟨d, .call ⟨.builtin .len, args, tys⟩, oty, pos, aft, g⟩ = ⟨[], [], [], false⟩ := rfl
theorem foot_min {args : Array Operand} {tys : Array TypeId} : foot X st ⟨d, .call ⟨.builtin .min, args, tys⟩, oty, pos, aft, g⟩ = ⟨[], [], [], false⟩ := rfl
theorem foot_max {args : Array Operand} {tys : Array TypeId} : foot X st ⟨d, .call ⟨.builtin .max, args, tys⟩, oty, pos, aft, g⟩ = ⟨[], [], [], false⟩ := rfl
theorem foot_call {f : Operand} {args : Array Operand} {tys : Array TypeId} : foot X st ⟨d, .call ⟨.value f, args, tys⟩, oty, pos, aft, g⟩ =
    ⟨[], (mapOpd X st.t args.toList).flatMap rowsOf, [(st.m.out.length, d.getD 0)], (mapOpd X st.t args.toList).any ptrs || ptrs (opd X st.t f) || (match calleeOf (opd X st.t f) with | some (_, first, _) => first.any V.refs | none => false)⟩ := rfl
theorem foot_move {x : Operand} : foot X st ⟨d, .move x, oty, pos, aft, g⟩ = ⟨[], [], [], false⟩ := rfl
theorem foot_pick {x y z : Operand} : foot X st ⟨d, .pick x y z, oty, pos, aft, g⟩ = ⟨[], [], [], false⟩ := rfl
theorem foot_binOp {op : BinOp} {t u : TypeId} {x y : Operand} : foot X st ⟨d, .binOp op t x y u, oty, pos, aft, g⟩ = ⟨[], [], [], false⟩ := rfl
theorem foot_unOp {op : UnOp} {t : TypeId} {x : Operand} : foot X st ⟨d, .unOp op t x, oty, pos, aft, g⟩ = ⟨[], [], [], false⟩ := rfl
theorem foot_convert {t u : TypeId} {x : Operand} : foot X st ⟨d, .convert t u x, oty, pos, aft, g⟩ = ⟨[], [], [], false⟩ := rfl
theorem foot_nilCheck {x : Operand} : foot X st ⟨d, .nilCheck x, oty, pos, aft, g⟩ = ⟨[], [], [], false⟩ := rfl
theorem foot_makeInterface {t : TypeId} {x : Operand} : foot X st ⟨d, .makeInterface t x, oty, pos, aft, g⟩ = ⟨[], [], [], false⟩ := rfl
theorem foot_slice {t : TypeId} {x : Operand} {a b c : Option Operand} : foot X st ⟨d, .slice t x a b c, oty, pos, aft, g⟩ = ⟨[], [], [], false⟩ := rfl
theorem foot_fieldAddr {t : TypeId} {x : Operand} {f : Nat} : foot X st ⟨d, .fieldAddr t x f, oty, pos, aft, g⟩ = ⟨[], [], [], false⟩ := rfl
theorem foot_field {t : TypeId} {x : Operand} {f : Nat} : foot X st ⟨d, .field t x f, oty, pos, aft, g⟩ = ⟨[], [], [], false⟩ := rfl
theorem foot_indexAddr {t : TypeId} {x y : Operand} : foot X st ⟨d, .indexAddr t x y, oty, pos, aft, g⟩ = ⟨[], [], [], false⟩ := rfl
theorem foot_index {t : TypeId} {x y : Operand} : foot X st ⟨d, .index t x y, oty, pos, aft, g⟩ = ⟨[], [], [], false⟩ := rfl
theorem foot_extract {x : Operand} {i : Nat} : foot X st ⟨d, .extract x i, oty, pos, aft, g⟩ = ⟨[], [], [], false⟩ := rfl
end
theorem rowsOf_int (k : IntKind) (n : Int) : rowsOf (.int k n) = [] := rfl
theorem rowsOf_bool (b : Bool) : rowsOf (.bool b) = [] := rfl
theorem rowsOf_str (s : List UInt8) : rowsOf (.str s) = [] := rfl
theorem rowsOf_sl (es : List V) : rowsOf (.sl es) = [] := rfl
theorem rowsOf_nilS : rowsOf .nilS = [] := rfl
theorem rowsOf_cptr (e : V) (t : TypeId) (o : Nat) : rowsOf (.cptr e t o) = [] := rfl
theorem rowsOf_ifc (t : TypeId) (v : V) : rowsOf (.ifc t v) = [] := rfl
theorem rowsOf_fn (f : FuncId) (a b : List V) : rowsOf (.fn f a b) = [] := rfl
theorem rowsOf_ptr (r : Ref) (j o : Nat) : rowsOf (.ptr r j o) = [(r.d, r.s)] := rfl
theorem rowsOf_rs (r : Ref) (t : TypeId) (o l : Nat) : rowsOf (.rs r t o l) = [(r.d, r.s)] := rfl
theorem rowsOf_agg {cs : List V} (h : cs.any V.loose = false) : rowsOf (.agg cs) = [] := by simp [rowsOf, h]
theorem ptrs_int (k : IntKind) (n : Int) : ptrs (.int k n) = false := rfl
theorem ptrs_bool (b : Bool) : ptrs (.bool b) = false := rfl
theorem ptrs_str (s : List UInt8) : ptrs (.str s) = false := rfl
theorem ptrs_sl (es : List V) : ptrs (.sl es) = false := rfl
theorem ptrs_rs (r : Ref) (t : TypeId) (o l : Nat) : ptrs (.rs r t o l) = false := rfl
theorem ptrs_nilS : ptrs .nilS = false := rfl
theorem ptrs_ifc (t : TypeId) (v : V) : ptrs (.ifc t v) = false := rfl
theorem ptrs_ptr (r : Ref) (j o : Nat) : ptrs (.ptr r j o) = true := rfl
theorem ptrs_fn (f : FuncId) (a b : List V) : ptrs (.fn f a b) = !b.isEmpty := rfl
theorem ptrs_agg {cs : List V} (h : cs.any V.loose = false) : ptrs (.agg cs) = false := by simp [ptrs, h]
end Go.Ev
namespace Go.Ev
def Mem.gen (m : Mem) (s i : Nat) : Nat := (m.own.get s i).g
theorem Mem.newRef_eq (m : Mem) (s i : Nat) : m.newRef s i = ⟨m.out.length, s, i, m.gen s i + 1⟩ := rfl
theorem Mem.gen_nil (out : List Rows) (s i : Nat) : Mem.gen ⟨.nil, out⟩ s i = 0 := by simp [Mem.gen, Rows.get_nil, noRow]
theorem Mem.gen_new (m : Mem) (s' i' s i : Nat) (ty : TypeId) (arr : Bool) (es : List V) : (m.new s' i' ty arr es).gen s i = if s = s' ∧ i = i' then m.gen s i + 1 else m.gen s i := by
  unfold Mem.gen Mem.new
  by_cases h : s = s' ∧ i = i'
  · obtain ⟨rfl, rfl⟩ := h; simp [Rows.get_upd_same]
  · simp only [Rows.get_upd_ne _ _ _ _ _ _ h]; rw [if_neg h]
theorem Mem.gen_set (m : Mem) (d s' i' s i : Nat) (row : Row) : (m.set d s' i' row).gen s i = if d = m.out.length ∧ s = s' ∧ i = i' then row.g else m.gen s i := by
  unfold Mem.gen Mem.set
  by_cases hd : d = m.out.length
  · by_cases h : s = s' ∧ i = i'
    · obtain ⟨rfl, rfl⟩ := h; simp [hd, Rows.get_upd_same]
    · simp only [hd, if_true, Rows.get_upd_ne _ _ _ _ _ _ h, true_and]; rw [if_neg h]
  · simp [hd]
theorem outRows_isSome : ∀ (l : List Rows) (d : Nat), d < l.length → (outRows l d).isSome = true
  | [], d, h => by simp at h
  | x :: xs, d, h => by
    unfold outRows
    by_cases hd : d = xs.length
    · simp [hd]
    · simp only [hd, if_false]; exact outRows_isSome xs d (by simp at h; omega)
theorem Mem.rows_isSome {m : Mem} {d : Nat} (h : d ≤ m.out.length) : (m.rows d).isSome = true := by
  unfold Mem.rows
  by_cases hd : d = m.out.length
  · simp [hd]
  · simp only [hd, if_false]; exact outRows_isSome _ _ (by omega)
theorem Mem.row_new (m : Mem) (s i : Nat) (ty : TypeId) (arr : Bool) (es : List V) (r : Ref) : (m.new s i ty arr es).row r =
    if r.d = m.out.length ∧ r.s = s ∧ r.i = i then (if r.g = m.gen s i + 1 then some ⟨m.gen s i + 1, ty, arr, false, es⟩ else none) else m.row r := by
  by_cases h : r.d = m.out.length ∧ r.s = s ∧ r.i = i
  · rw [if_pos h]
    obtain ⟨h1, h2, h3⟩ := h
    unfold Mem.row Mem.rows Mem.new Mem.gen
    simp only [h1, h2, h3, if_true, Rows.get_upd_same]
    by_cases hg : r.g = (m.own.get s i).g + 1
    · simp [hg]
    · rw [if_neg hg, if_neg (fun e => hg e.symm)]
  · rw [if_neg h, Mem.row_new_ne h]
theorem outRows_none : ∀ (l : List Rows) (d : Nat), l.length ≤ d → outRows l d = none
  | [], d, h => rfl
  | x :: xs, d, h => by
    unfold outRows
    rw [if_neg (by simp at h; omega)]
    exact outRows_none xs d (by simp at h; omega)
theorem Mem.row_setW (m : Mem) (d s i : Nat) (row : Row) (r : Ref) : (m.set d s i row).row r =
    if r.d = d ∧ r.s = s ∧ r.i = i then (if r.g = row.g ∧ d ≤ m.out.length then some row else none) else m.row r := by
  by_cases h : r.d = d ∧ r.s = s ∧ r.i = i
  · rw [if_pos h]
    obtain ⟨h1, h2, h3⟩ := h
    unfold Mem.row
    rw [Mem.rows_setW, if_pos h1]
    by_cases hd : d ≤ m.out.length
    · have hs := Mem.rows_isSome hd
      cases hx : m.rows d with
      | none => rw [hx] at hs; simp at hs
      | some x =>
        simp only [Option.map_some, h2, h3, Rows.get_upd_same]
        by_cases hg : r.g = row.g
        · simp [hg, hd]
        · have hg' : ¬ row.g = r.g := fun e => hg e.symm
          simp [hg, hg']
    · have hx : m.rows d = none := by
        unfold Mem.rows
        rw [if_neg (by omega)]
        exact outRows_none _ _ (by omega)
      rw [hx, if_neg (fun e => hd e.2)]
      rfl
  · rw [if_neg h, Mem.row_set_neW h]
theorem Mem.rows_ownW (m : Mem) : m.rows m.out.length = some m.own := by simp [Mem.rows]
theorem fillNil_nil (m : Mem) (s i : Nat) : fillNil m s i [] = (m, []) := rfl
theorem fillNil_nilS (m : Mem) (s i : Nat) (cs : List V) : fillNil m s i (.nilS :: cs) = ((fillNil (m.new s i 0 true []) s (i + 1) cs).1, .rs (m.newRef s i) 0 0 0 :: (fillNil (m.new s i 0 true []) s (i + 1) cs).2) := rfl
theorem fillNil_int (m : Mem) (s i : Nat) (k : IntKind) (n : Int) (cs : List V) : fillNil m s i (.int k n :: cs) = ((fillNil m s (i + 1) cs).1, .int k n :: (fillNil m s (i + 1) cs).2) := rfl
theorem fillNil_str (m : Mem) (s i : Nat) (b : List UInt8) (cs : List V) : fillNil m s i (.str b :: cs) = ((fillNil m s (i + 1) cs).1, .str b :: (fillNil m s (i + 1) cs).2) := rfl
theorem fillNil_bool (m : Mem) (s i : Nat) (b : Bool) (cs : List V) : fillNil m s i (.bool b :: cs) = ((fillNil m s (i + 1) cs).1, .bool b :: (fillNil m s (i + 1) cs).2) := rfl
theorem fillNil_sl (m : Mem) (s i : Nat) (es : List V) (cs : List V) : fillNil m s i (.sl es :: cs) = ((fillNil m s (i + 1) cs).1, .sl es :: (fillNil m s (i + 1) cs).2) := rfl
theorem fillNil_rs (m : Mem) (s i : Nat) (r : Ref) (t : TypeId) (o l : Nat) (cs : List V) : fillNil m s i (.rs r t o l :: cs) = ((fillNil m s (i + 1) cs).1, .rs r t o l :: (fillNil m s (i + 1) cs).2) := rfl
theorem mv_aggl (m : Mem) (cs : List V) : mv false m (.agg cs) = if cs.any V.loose then (mvL m false cs).map .agg else some (.agg cs) := rfl
theorem mv2_aggl (m : Mem) (cs : List V) : mv2 m false (.agg cs) = if cs.any V.loose then (mvL m false cs).map .agg else some (.agg cs) := rfl
theorem mvL_nil (m : Mem) : mvL m false [] = some [] := rfl
theorem mvL_cons (m : Mem) (v : V) (vs : List V) : mvL m false (v :: vs) = match mv1 m false v, mvL m false vs with | some x, some xs => some (x :: xs) | _, _ => none := rfl
theorem mv1_int (m : Mem) (k : IntKind) (n : Int) : mv1 m false (.int k n) = some (.int k n) := rfl
theorem mv1_bool (m : Mem) (b : Bool) : mv1 m false (.bool b) = some (.bool b) := rfl
theorem mv1_str (m : Mem) (s : List UInt8) : mv1 m false (.str s) = some (.str s) := rfl
theorem mv1_sl (m : Mem) (es : List V) : mv1 m false (.sl es) = some (.sl es) := rfl
theorem mv1_nilS (m : Mem) : mv1 m false .nilS = some (.sl []) := rfl
theorem mv1_rs (m : Mem) (r : Ref) (ty : TypeId) (off len : Nat) : mv1 m false (.rs r ty off len) = match m.row r with | some row => if row.arr = true ∧ off + len ≤ row.es.length then some (.sl (cut row.es off len)) else none | none => none := by
  cases h : m.row r with
  | none => simp [mv1, h]
  | some row => simp [mv1, h, owned]
theorem mv2_rsr (m : Mem) (r : Ref) (ty : TypeId) (off len : Nat) : mv2 m false (.rs r ty off len) = match m.row r with | some row => if row.arr = true ∧ off + len ≤ row.es.length then some (.sl (cut row.es off len)) else none | none => none := mv1_rs m r ty off len
theorem mv_rsr (m : Mem) (r : Ref) (ty : TypeId) (off len : Nat) : mv false m (.rs r ty off len) = match m.row r with | some row => if row.arr = true ∧ off + len ≤ row.es.length then some (.sl (cut row.es off len)) else none | none => none := mv1_rs m r ty off len
theorem snap_aggl (m : Mem) (cs : List V) : snap m (.agg cs) = if cs.any V.loose then (snapL m cs).map .agg else some (.agg cs) := rfl
theorem snapL_nil (m : Mem) : snapL m [] = some [] := rfl
theorem snapL_cons (m : Mem) (v : V) (vs : List V) : snapL m (v :: vs) = match snap1 m v, snapL m vs with | some x, some xs => some (x :: xs) | _, _ => none := rfl
theorem snap1_int (m : Mem) (k : IntKind) (n : Int) : snap1 m (.int k n) = some (.int k n) := rfl
theorem snap1_bool (m : Mem) (b : Bool) : snap1 m (.bool b) = some (.bool b) := rfl
theorem snap1_str (m : Mem) (s : List UInt8) : snap1 m (.str s) = some (.str s) := rfl
theorem snap1_sl (m : Mem) (es : List V) : snap1 m (.sl es) = some (.sl es) := rfl
theorem snap1_nilS (m : Mem) : snap1 m .nilS = some (.sl []) := rfl
theorem snap1_rs (m : Mem) (r : Ref) (ty : TypeId) (off len : Nat) : snap1 m (.rs r ty off len) = match m.row r with | some row => if row.arr = true ∧ off + len ≤ row.es.length then some (.sl (cut row.es off len)) else none | none => none := rfl
theorem frz_aggl (m : Mem) (cs : List V) : frz m (.agg cs) = if cs.any V.loose then frzL m cs else m := rfl
theorem frzL_nil (m : Mem) : frzL m [] = m := rfl
theorem frzL_cons (m : Mem) (v : V) (vs : List V) : frzL m (v :: vs) = frzL (frz1 m v) vs := rfl
theorem frz1_int (m : Mem) (k : IntKind) (n : Int) : frz1 m (.int k n) = m := rfl
theorem frz1_sl (m : Mem) (es : List V) : frz1 m (.sl es) = m := rfl
theorem frz1_str (m : Mem) (s : List UInt8) : frz1 m (.str s) = m := rfl
theorem frz1_nilS (m : Mem) : frz1 m .nilS = m := rfl
theorem frz1_rs (m : Mem) (r : Ref) (ty : TypeId) (off len : Nat) : frz1 m (.rs r ty off len) = match m.row r with | some row => if row.arr then m.set r.d r.s r.i { row with fz := true } else m | none => m := rfl
theorem unNil_int (m : Mem) (r : Ref) (o : Nat) (k : IntKind) (n : Int) : unNil m r o (.int k n) = (m, .int k n) := rfl
theorem unNil_bool (m : Mem) (r : Ref) (o : Nat) (b : Bool) : unNil m r o (.bool b) = (m, .bool b) := rfl
theorem unNil_str (m : Mem) (r : Ref) (o : Nat) (b : List UInt8) : unNil m r o (.str b) = (m, .str b) := rfl
theorem unNil_sl (m : Mem) (r : Ref) (o : Nat) (es : List V) : unNil m r o (.sl es) = (m, .sl es) := rfl
theorem unNil_ifc (m : Mem) (r : Ref) (o : Nat) (t : TypeId) (v : V) : unNil m r o (.ifc t v) = (m, .ifc t v) := rfl
theorem unNil_nilI (m : Mem) (r : Ref) (o : Nat) : unNil m r o .nilI = (m, .nilI) := rfl
theorem unNil_ptr (m : Mem) (r : Ref) (o : Nat) (r' : Ref) (j f : Nat) : unNil m r o (.ptr r' j f) = (m, .ptr r' j f) := rfl
theorem unNil_fn (m : Mem) (r : Ref) (o : Nat) (f : FuncId) (a b : List V) : unNil m r o (.fn f a b) = (m, .fn f a b) := rfl
theorem unNil_rs (m : Mem) (r : Ref) (o : Nat) (r' : Ref) (t : TypeId) (off len : Nat) : unNil m r o (.rs r' t off len) = if r.d < r'.d then unNil1 m r o (.rs r' t off len) else (m, .rs r' t off len) := by
  split
  · rfl
  · rename_i h; simp [unNil, unNil1, nilIn, h]
theorem unNil_nilS (m : Mem) (r : Ref) (o : Nat) : unNil m r o .nilS = unNil1 m r o .nilS := rfl
theorem unNil_agg (m : Mem) (r : Ref) (o : Nat) (cs : List V) : unNil m r o (.agg cs) = if cs.any (nilIn m r.d) then ((unNilL m r o cs).1, .agg (unNilL m r o cs).2) else (m, .agg cs) := rfl
theorem nilIn_int (m : Mem) (d : Nat) (k : IntKind) (n : Int) : nilIn m d (.int k n) = false := rfl
theorem nilIn_bool (m : Mem) (d : Nat) (b : Bool) : nilIn m d (.bool b) = false := rfl
theorem nilIn_str (m : Mem) (d : Nat) (b : List UInt8) : nilIn m d (.str b) = false := rfl
theorem nilIn_sl (m : Mem) (d : Nat) (es : List V) : nilIn m d (.sl es) = false := rfl
theorem nilIn_nilS (m : Mem) (d : Nat) : nilIn m d .nilS = true := rfl
theorem nilIn_rs (m : Mem) (d : Nat) (r : Ref) (t : TypeId) (off len : Nat) : nilIn m d (.rs r t off len) = if d < r.d then decide (off = 0) && decide (len = 0) && (match m.row r with | some row => decide (row.ty = 0) | none => false) else false := rfl
theorem unNil1_def (m : Mem) (r : Ref) (off : Nat) (v : V) : unNil1 m r off v = if nilIn m r.d v then
    (match m.rows r.d with
    | some rows =>
      (m.set r.d r.s (500 + off) { g := (rows.get r.s (500 + off)).g + 1, ty := 0, arr := true, fz := false, es := [] },
        .rs { d := r.d, s := r.s, i := 500 + off, g := (rows.get r.s (500 + off)).g + 1 } 0 0 0)
    | none => (m, .junk))
  else (m, v) := rfl
theorem refs_int (k : IntKind) (n : Int) : (V.int k n).refs = false := rfl
theorem refs_bool (b : Bool) : (V.bool b).refs = false := rfl
theorem refs_str (b : List UInt8) : (V.str b).refs = false := rfl
theorem refs_sl (es : List V) : (V.sl es).refs = false := rfl
theorem refs_ifc (t : TypeId) (v : V) : (V.ifc t v).refs = false := rfl
theorem refs_nilI : V.nilI.refs = false := rfl
theorem refs_ptr (r : Ref) (j o : Nat) : (V.ptr r j o).refs = true := rfl
theorem refs_rs (r : Ref) (t : TypeId) (o l : Nat) : (V.rs r t o l).refs = true := rfl
theorem refs_fn (f : FuncId) (a b : List V) : (V.fn f a b).refs = !b.isEmpty := rfl
theorem refs_agg (cs : List V) : (V.agg cs).refs = cs.any V.loose := rfl
theorem loose_int (k : IntKind) (n : Int) : (V.int k n).loose = false := rfl
theorem loose_bool (b : Bool) : (V.bool b).loose = false := rfl
theorem loose_str (b : List UInt8) : (V.str b).loose = false := rfl
theorem loose_sl (es : List V) : (V.sl es).loose = false := rfl
theorem loose_ifc (t : TypeId) (v : V) : (V.ifc t v).loose = false := rfl
theorem loose_nilI : V.nilI.loose = false := rfl
theorem loose_nilS : V.nilS.loose = true := rfl
theorem loose_ptr (r : Ref) (j o : Nat) : (V.ptr r j o).loose = true := rfl
theorem loose_rs (r : Ref) (t : TypeId) (o l : Nat) : (V.rs r t o l).loose = true := rfl
theorem loose_fn (f : FuncId) (a b : List V) : (V.fn f a b).loose = !b.isEmpty := rfl
theorem width_int (k : IntKind) (n : Int) : (V.int k n).width = 1 := rfl
theorem width_bool (b : Bool) : (V.bool b).width = 1 := rfl
theorem width_str (b : List UInt8) : (V.str b).width = 1 := rfl
theorem width_sl (es : List V) : (V.sl es).width = 1 := rfl
theorem width_rs (r : Ref) (t : TypeId) (o l : Nat) : (V.rs r t o l).width = 1 := rfl
theorem width_nilS : V.nilS.width = 1 := rfl
theorem width_nilI : V.nilI.width = 1 := rfl
theorem width_ifc (t : TypeId) (v : V) : (V.ifc t v).width = 1 := rfl
theorem width_ptr (r : Ref) (j o : Nat) : (V.ptr r j o).width = 1 := rfl
theorem width_cptr (e : V) (t : TypeId) (o : Nat) : (V.cptr e t o).width = 1 := rfl
theorem width_fn (f : FuncId) (a b : List V) : (V.fn f a b).width = 1 := rfl
theorem width_agg (cs : List V) : (V.agg cs).width = cs.length := rfl
theorem setElem_whole {P : Program} {row : Row} {j : Nat} {e v : V} (he : row.es[j]? = some e) (hw : v.width = P.cellsOf row.ty) : setElem P row j 0 row.ty v = some { row with es := row.es.set j v } := by
  simp [setElem, he, hw]
theorem filled_agg_iff (m : Mem) (s : Nat) (cs : List V) : filled m s (.agg cs) = if cs.any V.isNilS then (let p := fillNil m s 1 cs; (p.1, .agg p.2)) else (m, .agg cs) := rfl
end Go.Ev
namespace Go.Ev
structure AnsAt (X : Env) (f : FuncId) (args : List V) (out : List Rows) (r : Res) : Prop where
  ext : X.ext f args = none
  refs : args.any V.refs = true
  still : ∀ v, r = .ret v → v.still = true
  runs : RunsAt X f args out (r, out)
theorem AnsAt.iff {X : Env} {f : FuncId} {args : List V} {v : V} {m : Mem} (h : AnsAt X f args (m.own :: m.out) (.ret v)) {dst : Nat} {K KP : V → Mem → Prop} : CallQ X f args m dst K KP ↔ K v m := by
  have hi := install_still (m := ⟨m.own, m.out⟩) (d := dst) (h.still v rfl)
  obtain ⟨k, e⟩ := h.runs
  constructor
  · rintro ⟨n, r, hd, hk⟩
    unfold doCall at hd
    simp only [h.ext, h.refs, if_true] at hd
    cases hc : evFn X n f args (m.own :: m.out) with
    | none => simp [hc] at hd
    | some q =>
      have := evFn_det hc e
      subst this
      simp only [hc, if_true, hi, Option.some.injEq] at hd
      subst hd
      exact hk
  · intro hk
    refine ⟨k, (.ret v, m), ?_, hk⟩
    unfold doCall
    simp only [h.ext, h.refs, if_true, e, hi]
theorem AnsAt.panics {X : Env} {f : FuncId} {args : List V} {v : V} {m : Mem} (h : AnsAt X f args (m.own :: m.out) (.panic v)) {dst : Nat} {K KP : V → Mem → Prop} : CallQ X f args m dst K KP ↔ KP v m := by
  obtain ⟨k, e⟩ := h.runs
  constructor
  · rintro ⟨n, r, hd, hk⟩
    unfold doCall at hd
    simp only [h.ext, h.refs, if_true] at hd
    cases hc : evFn X n f args (m.own :: m.out) with
    | none => simp [hc] at hd
    | some q =>
      have := evFn_det hc e
      subst this
      simp only [hc, if_true, Option.some.injEq] at hd
      subst hd
      exact hk
  · intro hk
    exact ⟨k, (.panic v, m), by unfold doCall; simp only [h.ext, h.refs, if_true, e], hk⟩
def finQ (X : Env) (fn : Func) (R : Res × List Rows) : Out → St → Prop
  | .normal, st => ∃ k, finish X (evD X k) fn st none = some R
  | .ret, st => ∃ k, finish X (evD X k) fn st none = some R
  | .panic v, st => ∃ k, finish X (evD X k) fn st (some v) = some R
  | _, _ => False
theorem runsAt_of {X : Env} {f : FuncId} {fn : Func} {c : Code} {args : List V} {out : List Rows} {R : Res × List Rows} (hf : X.P.funcs[f]? = some fn) (hb : fn.body = some c)
    (hok : codeOk fn.ntmps c = true ∧ args.length ≤ fn.ntmps) (h : W X c (finQ X fn R) (enter args out)) : RunsAt X f args out R := by
  obtain ⟨n, o, s, e, q⟩ := h
  cases o with
  | exit id => exact q.elim
  | normal =>
    obtain ⟨k, hk⟩ := q
    refine ⟨max n k + 1, ?_⟩
    rw [evFn]
    simp only [hf, hb, hok, and_self, if_true, evC_le (Nat.le_max_left n k) e]
    exact finish_mono (evD_le (Nat.le_max_right n k)) hk
  | ret =>
    obtain ⟨k, hk⟩ := q
    refine ⟨max n k + 1, ?_⟩
    rw [evFn]
    simp only [hf, hb, hok, and_self, if_true, evC_le (Nat.le_max_left n k) e]
    exact finish_mono (evD_le (Nat.le_max_right n k)) hk
  | panic v =>
    obtain ⟨k, hk⟩ := q
    refine ⟨max n k + 1, ?_⟩
    rw [evFn]
    simp only [hf, hb, hok, and_self, if_true, evC_le (Nat.le_max_left n k) e]
    exact finish_mono (evD_le (Nat.le_max_right n k)) hk
theorem fin_ret {X : Env} {fn : Func} {st : St} {vs : List V} {v : V} {out : List Rows} (hd : st.dfs = []) (h : resVars X st.m st.t fn.results.toList = some vs) (h2 : mv (X.own fn) st.m (resOf vs) = some v)
    (h3 : (frzR (X.own fn) st.m (resOf vs)).out = out) : finQ X fn (.ret v, out) .ret st := ⟨0, by simp only [finish, hd, runDefers, h, h2, h3]⟩
theorem fin_panic {X : Env} {fn : Func} {st : St} {v : V} {out : List Rows} (hd : st.dfs = []) (h : v.refs = false) (h3 : st.m.out = out) : finQ X fn (.panic v, out) (.panic v) st := ⟨0, by simp only [finish, hd, runDefers, h, h3, Bool.false_eq_true, if_false]⟩
theorem fin_ret1 {X : Env} {fn : Func} {st : St} {f : FuncId} {cap : List V} {own : Rows} {out : List Rows} {vs : List V} {v : V} (hd : st.dfs = [(f, cap)]) (hD : ∃ k, evD X k f cap (st.m.own :: st.m.out) none = some (own :: out))
    (h : resVars X ⟨own, out⟩ st.t fn.results.toList = some vs) (h2 : mv (X.own fn) ⟨own, out⟩ (resOf vs) = some v) (h3 : (frzR (X.own fn) ⟨own, out⟩ (resOf vs)).out = out) : finQ X fn (.ret v, out) .ret st := by
  obtain ⟨k, e⟩ := hD
  exact ⟨k, by simp only [finish, hd, runDefers, e, h, h2, h3]⟩
theorem fin_panic1 {X : Env} {fn : Func} {st : St} {f : FuncId} {cap : List V} {own : Rows} {out : List Rows} {vs : List V} {v p : V} (hd : st.dfs = [(f, cap)]) (hD : ∃ k, evD X k f cap (st.m.own :: st.m.out) (some p) = some (own :: out))
    (h : resVars X ⟨own, out⟩ st.t fn.results.toList = some vs) (h2 : mv (X.own fn) ⟨own, out⟩ (resOf vs) = some v) (h3 : (frzR (X.own fn) ⟨own, out⟩ (resOf vs)).out = out) : finQ X fn (.ret v, out) (.panic p) st := by
  obtain ⟨k, e⟩ := hD
  exact ⟨k, by simp only [finish, hd, runDefers, e, h, h2, h3]⟩
theorem evD_of {X : Env} {f : FuncId} {fn : Func} {id : Nat} {ops : Array Oper} {o : Oper} {os : List Oper} {c : Code} {args : List V} {out outR : List Rows} {p : Option V}
    (hf : X.P.funcs[f]? = some fn) (hb : fn.body = some (.seq (.region id ops false) c)) (hops : ops.toList = o :: os)
    (hok : codeOk fn.ntmps (.seq (.region 0 ops false) c) = true ∧ args.length ≤ fn.ntmps ∧ isRecover o = true ∧ callOk X.P f = true) (hres : fn.results.size = 0)
    (h : WL X ops os (fun q s => q = .normal ∧ W X c (fun q' s' => (q' = .normal ∨ q' = .ret) ∧ s'.dfs.length = 0 ∧ s'.m.out = outR) s) { enter args out with t := put (enter args out).t o.dst (p.getD .nilI) }) :
    ∃ k, evD X k f args out p = some outR := by
  obtain ⟨n, q, s, e, rfl, n2, q2, s2, e2, hq, hd, ho⟩ := h
  refine ⟨max n n2 + 1, ?_⟩
  rw [evD]
  simp only [hf, hb, hops, if_pos hok]
  rw [evOps_mono (evFn_le (Nat.le_max_left n n2)) _ _ _ e]
  simp only
  rw [evC_le (Nat.le_max_right n n2) e2]
  rcases hq with rfl | rfl
  · simp only [hd, hres, and_self, if_true, ho]
  · simp only [hd, hres, and_self, if_true, ho]
theorem next_defer {X : Env} {ops : Array Oper} {o : Oper} {rest : List Oper} {Q : Out → St → Prop} {st : St} {f : FuncId} {cap : List V} :
    next X ops o rest Q st (some (.defer f cap)) = WL X ops rest Q { st with t := put st.t o.dst .undef, dfs := (f, cap) :: st.dfs } := rfl
theorem set_outer (o2 own : Rows) (out : List Rows) (d s i : Nat) (row : Row) (h : d = out.length) : (⟨o2, own :: out⟩ : Mem).set d s i row = ⟨o2, own.upd s i row :: out⟩ := by
  subst h; simp [Mem.set, outSet]
theorem set_own (own : Rows) (out : List Rows) (d s i : Nat) (row : Row) (h : d = out.length) : (⟨own, out⟩ : Mem).set d s i row = ⟨own.upd s i row, out⟩ := by
  subst h; simp [Mem.set]
theorem row_outer (o2 own : Rows) (out : List Rows) (r : Ref) (h : r.d ≤ out.length) : (⟨o2, own :: out⟩ : Mem).row r = (⟨own, out⟩ : Mem).row r := by
  unfold Mem.row Mem.rows
  simp only [List.length_cons]
  rw [if_neg (by omega)]
  by_cases hd : r.d = out.length
  · simp [outRows, hd]
  · simp [outRows, hd]
theorem Mem.rows_new (m : Mem) (s i : Nat) (ty : TypeId) (arr : Bool) (es : List V) (d : Nat) : (m.new s i ty arr es).rows d = if d = m.out.length then some (m.own.upd s i { g := (m.own.get s i).g + 1, ty, arr, fz := false, es }) else m.rows d := by
  unfold Mem.rows Mem.new
  by_cases h : d = m.out.length <;> simp [h]
theorem Mem.rows_lit (o2 own : Rows) (out : List Rows) (d : Nat) : Mem.rows ⟨o2, own :: out⟩ d = if d = out.length + 1 then some o2 else if d = out.length then some own else outRows out d := by
  simp [Mem.rows, outRows]
theorem WL_k {X : Env} {ops : Array Oper} {l : List Oper} {Q : Out → St → Prop} {st : St} (h : ∀ K : Out → St → Prop, (∀ o s, Q o s → K o s) → WL X ops l K st) : WL X ops l Q st := h Q fun _ _ h => h
theorem frzL_own : ∀ (l : List V) (m : Mem), (∀ r ty off len, V.rs r ty off len ∈ l → r.d = m.out.length) → (frzL m l).out = m.out
  | [], m, _ => rfl
  | v :: vs, m, h => by
    have e : (frz1 m v).out = m.out := by
      cases v with
      | rs r ty off len =>
        have hd := h r ty off len List.mem_cons_self
        cases hr : m.row r with
        | none => simp [frz1, hr]
        | some row =>
          by_cases ha : row.arr = true
          · simp [frz1, hr, ha, Mem.set, hd]
          · simp [frz1, hr, ha]
      | _ => rfl
    rw [frzL, frzL_own vs _ (fun r ty off len hm => by rw [e]; exact h r ty off len (List.mem_cons_of_mem _ hm)), e]
theorem frzR_own {d : Bool} {m : Mem} {v : V} (h : ∀ r ty off len, V.rs r ty off len ∈ leaves v → r.d = m.out.length) : (frzR d m v).out = m.out :=
  frzL_own _ _ fun r ty off len hm => h r ty off len (List.mem_filter.1 hm).1
theorem Tm.get_setb (t : Tm) (i k : Nat) (v : V) : (t.set i v).get k = cond (k == i) v (t.get k) := by
  rw [Tm.get_set]
  by_cases h : k = i
  · subst h; simp
  · rw [if_neg h, beq_eq_false_iff_ne.2 h]; rfl
theorem frzR_sl (d : Bool) (m : Mem) (es : List V) : frzR d m (.sl es) = m := rfl
end Go.Ev
namespace Go.Pl
def tab {α : Type} (n : Nat) (f : Nat → α) : List α := (List.range n).map f
theorem tab_length {α : Type} (n : Nat) (f : Nat → α) : (tab n f).length = n := by simp [tab]
theorem tab_get? {α : Type} {n i : Nat} {f : Nat → α} (h : i < n) : (tab n f)[i]? = some (f i) := by simp [tab, h]
theorem tab_congr {α : Type} {n : Nat} {f g : Nat → α} (h : ∀ j, j < n → f j = g j) : tab n f = tab n g := by
  unfold tab
  exact List.map_congr_left fun j hj => h j (by simpa using hj)
theorem tab_set {α : Type} {n i : Nat} {f : Nat → α} {v : α} : (tab n f).set i v = tab n (fun j => if j = i then v else f j) := by
  apply List.ext_getElem?
  intro k
  rw [List.getElem?_set]
  by_cases hk : k < n
  · rw [tab_get? hk, tab_get? hk]
    by_cases h : i = k
    · subst h; simp [tab_length, hk]
    · have : ¬ k = i := fun e => h e.symm
      simp [h, this]
  · have h1 : (tab n f)[k]? = none := by simp [tab]; omega
    have h2 : (tab n fun j => if j = i then v else f j)[k]? = none := by simp [tab]; omega
    rw [h1, h2]
    by_cases h : i = k
    · subst h; simp [tab_length, hk]
    · simp [h]
theorem tab_map {α β : Type} {n : Nat} {f : Nat → α} {g : α → β} : (tab n f).map g = tab n fun i => g (f i) := by simp [tab]
theorem tab_const {α : Type} {n : Nat} {v : α} : List.replicate n v = tab n fun _ => v := by
  apply List.ext_getElem?; intro k
  by_cases hk : k < n
  · rw [tab_get? hk]; simp [hk]
  · have h1 : (List.replicate n v)[k]? = none := by simp; omega
    have h2 : (tab n fun _ => v)[k]? = none := by simp [tab]; omega
    rw [h1, h2]
theorem tab_succ {α : Type} {n : Nat} {f : Nat → α} : tab (n + 1) f = tab n f ++ [f n] := by simp [tab, List.range_succ]
theorem tab_cons {α : Type} {n : Nat} {f : Nat → α} : tab (n + 1) f = f 0 :: tab n (fun i => f (i + 1)) := by
  simp [tab, List.range_succ_eq_map, Function.comp_def]
theorem tab_inj {α : Type} {n : Nat} {f g : Nat → α} (h : tab n f = tab n g) : ∀ j, j < n → f j = g j := by
  intro j hj
  have := congrArg (fun l => l[j]?) h
  simpa [tab_get? hj] using this
theorem tab_all {α : Type} {n : Nat} {f : Nat → α} {p : α → Bool} (h : ∀ j, j < n → p (f j) = true) : (tab n f).all p = true := by
  simp only [tab, List.all_map, List.all_eq_true, List.mem_range]
  exact fun j hj => h j hj
def dig (N i : Nat) : Nat := N / 60 ^ i % 60
theorem dig_lt (N i : Nat) : dig N i < 60 := Nat.mod_lt _ (by decide)
theorem pow_pos (i : Nat) : 0 < 60 ^ i := Nat.pow_pos (by decide)
theorem mod_succ (N i : Nat) : N % 60 ^ (i + 1) = N % 60 ^ i + dig N i * 60 ^ i := by
  rw [Nat.pow_succ, Nat.mod_mul, dig, Nat.mul_comm]
theorem div_succ (N i : Nat) : N / 60 ^ i = N / 60 ^ (i + 1) * 60 + dig N i := by
  rw [Nat.pow_succ, ← Nat.div_div_eq_div_mul, dig]; omega
theorem dig_of_lt {N i : Nat} (h : N < 60 ^ i) : dig N i = 0 := by simp [dig, Nat.div_eq_of_lt h]
theorem lt_pow_mono {N i j : Nat} (h : N < 60 ^ i) (hij : i ≤ j) : N < 60 ^ j := Nat.lt_of_lt_of_le h (Nat.pow_le_pow_right (by decide) hij)
theorem dig_ext : ∀ {n N M : Nat}, N < 60 ^ n → M < 60 ^ n → (∀ i, i < n → dig N i = dig M i) → N = M := by
  intro n
  induction n with
  | zero => intro N M h1 h2 _; simp at h1 h2; omega
  | succ n ih =>
    intro N M h1 h2 h
    have h0 := h 0 (by omega)
    have : N / 60 = M / 60 := by
      refine ih ?_ ?_ ?_
      · rw [Nat.pow_succ] at h1; exact (Nat.div_lt_iff_lt_mul (by decide)).2 h1
      · rw [Nat.pow_succ] at h2; exact (Nat.div_lt_iff_lt_mul (by decide)).2 h2
      · intro i hi
        have := h (i + 1) (by omega)
        unfold dig at this ⊢
        rw [Nat.pow_succ, Nat.mul_comm, ← Nat.div_div_eq_div_mul, ← Nat.div_div_eq_div_mul] at this
        exact this
    simp only [dig, Nat.pow_zero, Nat.div_one] at h0
    omega
theorem dig_shift (N k i : Nat) : dig (N * 60 ^ k) i = if i < k then 0 else dig N (i - k) := by
  unfold dig
  split
  · rename_i h
    obtain ⟨d, rfl⟩ : ∃ d, k = i + 1 + d := ⟨k - (i + 1), by omega⟩
    have : N * 60 ^ (i + 1 + d) = 60 ^ i * (60 * (N * 60 ^ d)) := by rw [Nat.pow_add, Nat.pow_succ]; grind
    rw [this, Nat.mul_div_cancel_left _ (pow_pos i)]
    omega
  · rename_i h
    obtain ⟨d, rfl⟩ : ∃ d, i = d + k := ⟨i - k, by omega⟩
    rw [Nat.add_sub_cancel, Nat.pow_add, Nat.mul_comm (60 ^ d), ← Nat.div_div_eq_div_mul, Nat.mul_div_cancel _ (pow_pos k)]
def numL : List Nat → Nat
  | [] => 0
  | d :: ds => d + 60 * numL ds
def canL (N : Nat) : List Nat := if h : N = 0 then [] else N % 60 :: canL (N / 60)
termination_by N
decreasing_by omega
theorem canL_zero : canL 0 = [] := by rw [canL]; simp
theorem canL_pos {N : Nat} (h : 0 < N) : canL N = N % 60 :: canL (N / 60) := by rw [canL]; simp; omega
theorem num_canL (N : Nat) : numL (canL N) = N := by
  induction N using Nat.strongRecOn with
  | _ N ih =>
    by_cases h : N = 0
    · subst h; rw [canL_zero]; rfl
    · rw [canL_pos (by omega), numL, ih (N / 60) (by omega)]; omega
theorem canL_lt (N : Nat) : ∀ d ∈ canL N, d < 60 := by
  induction N using Nat.strongRecOn with
  | _ N ih =>
    by_cases h : N = 0
    · subst h; rw [canL_zero]; simp
    · rw [canL_pos (by omega)]
      intro d hd
      rcases List.mem_cons.1 hd with rfl | hd
      · omega
      · exact ih (N / 60) (by omega) d hd
theorem canL_length_pos {N : Nat} (h : 0 < N) : 0 < (canL N).length := by rw [canL_pos h]; simp
theorem canL_eq_nil {N : Nat} : canL N = [] ↔ N = 0 := by
  constructor
  · intro h
    rcases Nat.eq_zero_or_pos N with h0 | h0
    · exact h0
    · rw [canL_pos h0] at h; simp at h
  · rintro rfl; exact canL_zero
theorem canL_inj {N M : Nat} (h : canL N = canL M) : N = M := by rw [← num_canL N, h, num_canL]
theorem canL_length_le {N n : Nat} : (canL N).length ≤ n ↔ N < 60 ^ n := by
  induction n generalizing N with
  | zero =>
    simp only [Nat.le_zero_eq, List.length_eq_zero_iff, canL_eq_nil, Nat.pow_zero]; omega
  | succ n ih =>
    rcases Nat.eq_zero_or_pos N with rfl | h
    · rw [canL_zero]; simp [Nat.pow_pos]
    · rw [canL_pos h, List.length_cons, Nat.succ_le_succ_iff, ih, Nat.pow_succ]
      exact Nat.div_lt_iff_lt_mul (by decide)
theorem canL_get? (N i : Nat) : (canL N)[i]? = if 60 ^ i ≤ N then some (dig N i) else none := by
  induction i generalizing N with
  | zero =>
    rcases Nat.eq_zero_or_pos N with rfl | h
    · rw [canL_zero]; simp
    · rw [canL_pos h]; simp [dig]; omega
  | succ i ih =>
    rcases Nat.eq_zero_or_pos N with rfl | h
    · rw [canL_zero]; simp [Nat.pow_pos]
    · rw [canL_pos h, List.getElem?_cons_succ, ih]
      have e : 60 ^ i ≤ N / 60 ↔ 60 ^ (i + 1) ≤ N := by rw [Nat.pow_succ]; exact Nat.le_div_iff_mul_le (by decide)
      have d : dig (N / 60) i = dig N (i + 1) := by unfold dig; rw [Nat.pow_succ, Nat.mul_comm (60 ^ i), ← Nat.div_div_eq_div_mul]
      rw [d]
      by_cases hh : 60 ^ (i + 1) ≤ N
      · rw [if_pos (e.2 hh), if_pos hh]
      · rw [if_neg (fun x => hh (e.1 x)), if_neg hh]
theorem canL_tab (N : Nat) : canL N = tab (canL N).length (dig N) := by
  apply List.ext_getElem?
  intro k
  by_cases hk : k < (canL N).length
  · rw [tab_get? hk, canL_get?, if_pos]
    rcases Nat.lt_or_ge N (60 ^ k) with h | h
    · have := canL_length_le.2 h; omega
    · exact h
  · have h2 : (tab (canL N).length (dig N))[k]? = none := by simp [tab]; omega
    rw [h2]; simp; omega
theorem num_append (a b : List Nat) : numL (a ++ b) = numL a + 60 ^ a.length * numL b := by
  induction a with
  | nil => simp [numL]
  | cons x xs ih => simp only [List.cons_append, numL, ih, List.length_cons, Nat.pow_succ]; grind
theorem num_lt {l : List Nat} (h : ∀ d ∈ l, d < 60) : numL l < 60 ^ l.length := by
  induction l with
  | nil => simp [numL]
  | cons x xs ih =>
    have := ih fun d hd => h d (List.mem_cons_of_mem _ hd)
    have hx := h x List.mem_cons_self
    simp only [numL, List.length_cons, Nat.pow_succ]; omega
theorem num_dig {l : List Nat} (h : ∀ d ∈ l, d < 60) (i : Nat) : dig (numL l) i = l.getD i 0 := by
  induction l generalizing i with
  | nil => simp [numL, dig]
  | cons x xs ih =>
    have hx := h x List.mem_cons_self
    have ih := ih fun d hd => h d (List.mem_cons_of_mem _ hd)
    cases i with
    | zero => simp [numL, dig]; omega
    | succ i =>
      have := ih i
      simp only [numL, dig, List.getD_cons_succ] at this ⊢
      rw [← this, Nat.pow_succ, Nat.mul_comm (60 ^ i), ← Nat.div_div_eq_div_mul]
      congr 2; omega
theorem num_set {l : List Nat} {i v x : Nat} (h : l[i]? = some x) : numL (l.set i v) + x * 60 ^ i = numL l + v * 60 ^ i := by
  induction l generalizing i with
  | nil => simp at h
  | cons y ys ih =>
    cases i with
    | zero => simp only [List.getElem?_cons_zero, Option.some.injEq] at h; subst h; simp only [List.set_cons_zero, numL, Nat.pow_zero]; omega
    | succ i =>
      have := ih (i := i) (by simpa using h)
      simp only [List.set_cons_succ, numL, Nat.pow_succ]; grind
theorem canL_num {l : List Nat} (h : ∀ d ∈ l, d < 60) (hl : l.getLast? ≠ some 0) : canL (numL l) = l := by
  induction l with
  | nil => exact canL_zero
  | cons x xs ih =>
    have hx := h x List.mem_cons_self
    have hxs : ∀ d ∈ xs, d < 60 := fun d hd => h d (List.mem_cons_of_mem _ hd)
    have hp : 0 < x + 60 * numL xs := by
      rcases Nat.eq_zero_or_pos (numL xs) with h0 | h0
      · cases xs with
        | nil => simp at hl; omega
        | cons y ys =>
          have := ih hxs (by simpa [List.getLast?_cons] using hl)
          rw [h0, canL_zero] at this; simp at this
      · omega
    have hlast : xs.getLast? ≠ some 0 := by
      cases xs with
      | nil => simp
      | cons y ys => simpa [List.getLast?_cons] using hl
    rw [numL, canL_pos hp]
    have e1 : (x + 60 * numL xs) % 60 = x := by omega
    have e2 : (x + 60 * numL xs) / 60 = numL xs := by omega
    rw [e1, e2, ih hxs hlast]
end Go.Pl
namespace Go.Pl
theorem div_add_mul {a b p : Nat} (hp : 0 < p) : (a + b * p) / p = a / p + b := Nat.add_mul_div_right _ _ hp
theorem times_step (N n i : Nat) :
    (N % 60 ^ i * n / 60 ^ i + dig N i * n) % 60 = dig (N * n) i ∧ (N % 60 ^ i * n / 60 ^ i + dig N i * n) / 60 = N % 60 ^ (i + 1) * n / 60 ^ (i + 1) := by
  have hp := pow_pos i
  have e : N % 60 ^ i * n / 60 ^ i + dig N i * n = N % 60 ^ (i + 1) * n / 60 ^ i := by
    rw [mod_succ N i, Nat.add_mul, Nat.mul_right_comm, div_add_mul hp]
  rw [e]
  constructor
  · have hN : N = N / 60 ^ (i + 1) * 60 ^ (i + 1) + N % 60 ^ (i + 1) := by rw [Nat.mul_comm]; exact (Nat.div_add_mod N (60 ^ (i + 1))).symm
    have h2 : N * n = N % 60 ^ (i + 1) * n + N / 60 ^ (i + 1) * n * 60 * 60 ^ i := by
      conv => lhs; rw [hN]
      rw [Nat.pow_succ]; grind
    unfold dig
    rw [h2, div_add_mul hp]
    generalize N % 60 ^ (i + 1) * n / 60 ^ i = a
    generalize N / 60 ^ (i + 1) * n = b
    omega
  · rw [Nat.div_div_eq_div_mul, ← Nat.pow_succ]
theorem plus_step (N M i : Nat) :
    ((N % 60 ^ i + M % 60 ^ i) / 60 ^ i + dig N i + dig M i) % 60 = dig (N + M) i ∧ ((N % 60 ^ i + M % 60 ^ i) / 60 ^ i + dig N i + dig M i) / 60 = (N % 60 ^ (i + 1) + M % 60 ^ (i + 1)) / 60 ^ (i + 1) := by
  have hp := pow_pos i
  have e : (N % 60 ^ i + M % 60 ^ i) / 60 ^ i + dig N i + dig M i = (N % 60 ^ (i + 1) + M % 60 ^ (i + 1)) / 60 ^ i := by
    rw [mod_succ N i, mod_succ M i, Nat.add_assoc, ← div_add_mul hp]
    congr 1; grind
  rw [e]
  constructor
  · have h1 : N = N / 60 ^ (i + 1) * 60 ^ (i + 1) + N % 60 ^ (i + 1) := by rw [Nat.mul_comm]; exact (Nat.div_add_mod N (60 ^ (i + 1))).symm
    have h2 : M = M / 60 ^ (i + 1) * 60 ^ (i + 1) + M % 60 ^ (i + 1) := by rw [Nat.mul_comm]; exact (Nat.div_add_mod M (60 ^ (i + 1))).symm
    have h3 : N + M = N % 60 ^ (i + 1) + M % 60 ^ (i + 1) + (N / 60 ^ (i + 1) + M / 60 ^ (i + 1)) * 60 * 60 ^ i := by
      conv => lhs; rw [h1, h2]
      rw [Nat.pow_succ]; grind
    unfold dig
    rw [h3, div_add_mul hp]
    omega
  · rw [Nat.div_div_eq_div_mul, ← Nat.pow_succ]
theorem over_step (N n i : Nat) (hn : 0 < n) :
    (N / 60 ^ (i + 1) % n * 60 + dig N i) / n = dig (N / n) i ∧ (N / 60 ^ (i + 1) % n * 60 + dig N i) % n = N / 60 ^ i % n := by
  have e := div_succ N i
  have hB : N / 60 ^ (i + 1) = n * (N / 60 ^ (i + 1) / n) + N / 60 ^ (i + 1) % n := (Nat.div_add_mod _ _).symm
  have hr : N / 60 ^ (i + 1) % n < n := Nat.mod_lt _ hn
  have hd := dig_lt N i
  generalize N / 60 ^ (i + 1) / n = q at *
  generalize N / 60 ^ (i + 1) % n = r at *
  have hA : N / 60 ^ i = r * 60 + dig N i + q * 60 * n := by rw [e, hB]; grind
  constructor
  · have : dig (N / n) i = N / 60 ^ i / n % 60 := by unfold dig; rw [Nat.div_div_eq_div_mul, Nat.div_div_eq_div_mul, Nat.mul_comm]
    rw [this, hA, Nat.add_mul_div_right _ _ hn]
    have : (r * 60 + dig N i) / n < 60 := by
      rw [Nat.div_lt_iff_lt_mul hn]
      have : r * 60 + 60 ≤ n * 60 := by omega
      omega
    generalize (r * 60 + dig N i) / n = a at *
    omega
  · rw [hA, Nat.add_mul_mod_self_right]
theorem dig_mod (N k j : Nat) (h : j < k) : dig (N % 60 ^ k) j = dig N j := by
  obtain ⟨d, rfl⟩ : ∃ d, k = j + 1 + d := ⟨k - (j + 1), by omega⟩
  have hN : N = N / 60 ^ (j + 1 + d) * 60 ^ (j + 1 + d) + N % 60 ^ (j + 1 + d) := by rw [Nat.mul_comm]; exact (Nat.div_add_mod _ _).symm
  generalize N % 60 ^ (j + 1 + d) = r at *
  generalize N / 60 ^ (j + 1 + d) = q at *
  have e : N = r + q * 60 ^ d * 60 * 60 ^ j := by rw [hN, Nat.pow_add, Nat.pow_succ]; grind
  unfold dig
  rw [e, div_add_mul (pow_pos j)]
  omega
theorem dig_join (A N k j : Nat) : dig (A * 60 ^ k + N % 60 ^ k) j = if j < 0 + k then dig N j else dig A (j - k) := by
  have hr : N % 60 ^ k < 60 ^ k := Nat.mod_lt _ (pow_pos k)
  rw [Nat.zero_add]
  split
  · rename_i h
    rw [← dig_mod (A * 60 ^ k + N % 60 ^ k) k j h, Nat.add_comm, Nat.add_mul_mod_self_right, Nat.mod_mod, dig_mod N k j h]
  · rename_i h
    obtain ⟨d, rfl⟩ : ∃ d, j = k + d := ⟨j - k, by omega⟩
    unfold dig
    rw [Nat.pow_add, ← Nat.div_div_eq_div_mul, Nat.add_comm, div_add_mul (pow_pos k), Nat.div_eq_of_lt hr, Nat.zero_add, Nat.add_sub_cancel_left]
def vz (N : Nat) : Nat := if h : N % 60 = 0 ∧ 0 < N then vz (N / 60) + 1 else 0
termination_by N
decreasing_by omega
theorem vz_spec {N : Nat} (h : 0 < N) : N = N / 60 ^ vz N * 60 ^ vz N ∧ 0 < N / 60 ^ vz N ∧ N / 60 ^ vz N % 60 ≠ 0 := by
  induction N using Nat.strongRecOn with
  | _ N ih =>
    rw [vz]
    split
    · rename_i hz
      obtain ⟨h1, h2, h3⟩ := ih (N / 60) (by omega) (by omega)
      rw [Nat.pow_succ, Nat.mul_comm (60 ^ vz (N / 60)) 60, ← Nat.div_div_eq_div_mul]
      refine ⟨?_, h2, h3⟩
      have e : N = N / 60 * 60 := by omega
      calc N = N / 60 * 60 := e
        _ = N / 60 / 60 ^ vz (N / 60) * 60 ^ vz (N / 60) * 60 := by rw [← h1]
        _ = _ := by grind
    · rename_i hz
      simp only [Nat.pow_zero, Nat.div_one, Nat.mul_one]
      exact ⟨trivial, h, by omega⟩
theorem vz_dig_lt {N i : Nat} (h : i < vz N) : dig N i = 0 := by
  rcases Nat.eq_zero_or_pos N with rfl | hp
  · simp [dig]
  · rw [(vz_spec hp).1, dig_shift, if_pos h]
theorem vz_dig {N : Nat} (h : 0 < N) : dig N (vz N) ≠ 0 := (vz_spec h).2.2
theorem vz_unique {N i : Nat} (h1 : ∀ j, j < i → dig N j = 0) (h2 : dig N i ≠ 0) : vz N = i := by
  have hp : 0 < N := by
    rcases Nat.eq_zero_or_pos N with rfl | hp
    · simp [dig] at h2
    · exact hp
  rcases Nat.lt_trichotomy (vz N) i with h | h | h
  · exact absurd (h1 _ h) (vz_dig hp)
  · exact h
  · exact absurd (vz_dig_lt h) h2
theorem vz_lt {N n : Nat} (hp : 0 < N) (h : N < 60 ^ n) : vz N < n := by
  rcases Nat.lt_or_ge (vz N) n with h' | h'
  · exact h'
  · exfalso
    have h0 := vz_spec hp
    have : 60 ^ n ≤ 60 ^ vz N := Nat.pow_le_pow_right (by decide) h'
    rw [Nat.div_eq_of_lt (by omega)] at h0
    omega
def core (N : Nat) : Nat := N / 60 ^ vz N
def digB (N : Nat) : List Nat := (canL (core N)).reverse
theorem core_shift (N k : Nat) (h : 0 < N) : vz (N * 60 ^ k) = vz N + k ∧ core (N * 60 ^ k) = core N := by
  have hv : vz (N * 60 ^ k) = vz N + k := by
    refine vz_unique (fun j hj => ?_) ?_
    · rw [dig_shift]; split
      · rfl
      · exact vz_dig_lt (by omega)
    · rw [dig_shift, if_neg (by omega), Nat.add_sub_cancel]; exact vz_dig h
  refine ⟨hv, ?_⟩
  unfold core
  rw [hv, Nat.pow_add, Nat.mul_comm (60 ^ vz N), ← Nat.div_div_eq_div_mul, Nat.mul_div_cancel _ (pow_pos k)]
end Go.Pl
namespace Go.Pl
def trimL : List Nat → List Nat
  | [] => []
  | d :: ds => if trimL ds = [] ∧ d = 0 then [] else d :: trimL ds
theorem num_trimL : ∀ l, numL (trimL l) = numL l
  | [] => rfl
  | d :: ds => by
    have ih := num_trimL ds
    unfold trimL
    split
    · rename_i h; rw [h.1] at ih; simp only [numL] at ih ⊢; omega
    · simp only [numL, ih]
theorem trimL_mem : ∀ {l : List Nat} {d}, d ∈ trimL l → d ∈ l
  | [], d, h => by simp [trimL] at h
  | x :: xs, d, h => by
    unfold trimL at h
    split at h
    · simp at h
    · rcases List.mem_cons.1 h with rfl | h
      · simp
      · exact List.mem_cons_of_mem _ (trimL_mem h)
theorem trimL_last : ∀ l, (trimL l).getLast? ≠ some 0
  | [] => by simp [trimL]
  | x :: xs => by
    have ih := trimL_last xs
    unfold trimL
    split
    · simp
    · rename_i h
      cases hx : trimL xs with
      | nil => simp; intro e; exact h ⟨hx, e⟩
      | cons y ys => rw [hx] at ih; simpa [List.getLast?_cons] using ih
theorem trimL_can {l : List Nat} (h : ∀ d ∈ l, d < 60) : trimL l = canL (numL l) := by
  rw [← canL_num (fun d hd => h d (trimL_mem hd)) (trimL_last l), num_trimL]
theorem trimL_append_zero (l : List Nat) : trimL (l ++ [0]) = trimL l := by
  induction l with
  | nil => simp [trimL]
  | cons x xs ih => simp only [List.cons_append]; unfold trimL; rw [ih]
theorem trimL_of_last {l : List Nat} (h : l.getLast? ≠ some 0) : trimL l = l := by
  induction l with
  | nil => rfl
  | cons x xs ih =>
    unfold trimL
    cases xs with
    | nil =>
      have : x ≠ 0 := by simpa using h
      simp [trimL, this]
    | cons y ys =>
      have := ih (by simpa [List.getLast?_cons] using h)
      rw [this]; simp
theorem trimL_take {l : List Nat} {n : Nat} (hn : n ≤ l.length) (hz : ∀ i, n ≤ i → i < l.length → l[i]? = some 0) (hl : 0 < n → l[n - 1]? ≠ some 0) : trimL l = l.take n := by
  obtain ⟨k, hk⟩ : ∃ k, l.length = n + k := ⟨l.length - n, by omega⟩
  induction k generalizing l with
  | zero =>
    rw [List.take_of_length_le (by omega)]
    refine trimL_of_last ?_
    rw [List.getLast?_eq_getElem?]
    rcases Nat.eq_zero_or_pos n with h0 | h0
    · have : l = [] := List.length_eq_zero_iff.1 (by omega)
      subst this; simp
    · have := hl h0
      rwa [show l.length - 1 = n - 1 by omega]
  | succ k ih =>
    have hne : l ≠ [] := by rintro rfl; simp at hk
    have hlast : l[l.length - 1]? = some 0 := hz _ (by omega) (by omega)
    have e : l = l.dropLast ++ [0] := by
      conv => lhs; rw [← List.dropLast_concat_getLast hne]
      congr 2
      have : l[l.length - 1]? = some (l.getLast hne) := by rw [List.getLast_eq_getElem, List.getElem?_eq_getElem]
      rw [this] at hlast; simpa using hlast
    have hlen : l.dropLast.length = n + k := by rw [List.length_dropLast]; omega
    have hget : ∀ i, i < n + k → l.dropLast[i]? = l[i]? := fun i hi => by rw [List.getElem?_dropLast, if_pos (by omega)]
    rw [e, trimL_append_zero, ih (by omega) (fun i h1 h2 => by rw [hget i (by omega)]; exact hz i h1 (by omega)) (fun h => by rw [hget _ (by omega)]; exact hl h) hlen]
    rw [← e]
    conv => rhs; rw [e]
    rw [List.take_append_of_le_length (by omega)]
end Go.Pl
namespace Go.Proofs.YtpocekfifokndaaDoor
open Go Go.Ev
theorem c3 : Tryd.prog.cellsOf 3 = 1 := by kernel_rfl
theorem b3 : Tryd.prog.bytesOf 3 = 8 := by kernel_rfl
theorem a3 : aggT Tryd.prog 3 = some false := by kernel_rfl
theorem k3 : okT Tryd.prog 3 = true := by kernel_rfl
theorem z3 : zeroOf Tryd.prog 3 = some (.int .i64 0) := by kernel_rfl
theorem c4 : Tryd.prog.cellsOf 4 = 1 := by kernel_rfl
theorem b4 : Tryd.prog.bytesOf 4 = 1 := by kernel_rfl
theorem a4 : aggT Tryd.prog 4 = some false := by kernel_rfl
theorem k4 : okT Tryd.prog 4 = true := by kernel_rfl
theorem z4 : zeroOf Tryd.prog 4 = some (.bool false) := by kernel_rfl
theorem c5 : Tryd.prog.cellsOf 5 = 1 := by kernel_rfl
theorem b5 : Tryd.prog.bytesOf 5 = 1 := by kernel_rfl
theorem a5 : aggT Tryd.prog 5 = some false := by kernel_rfl
theorem k5 : okT Tryd.prog 5 = true := by kernel_rfl
theorem z5 : zeroOf Tryd.prog 5 = some (.int .u8 0) := by kernel_rfl
theorem c9 : Tryd.prog.cellsOf 9 = 1 := by kernel_rfl
theorem b9 : Tryd.prog.bytesOf 9 = 16 := by kernel_rfl
theorem a9 : aggT Tryd.prog 9 = some false := by kernel_rfl
theorem k9 : okT Tryd.prog 9 = true := by kernel_rfl
theorem z9 : zeroOf Tryd.prog 9 = some (.str []) := by kernel_rfl
theorem c20 : Tryd.prog.cellsOf 20 = 1 := by kernel_rfl
theorem b20 : Tryd.prog.bytesOf 20 = 16 := by kernel_rfl
theorem a20 : aggT Tryd.prog 20 = some false := by kernel_rfl
theorem k20 : okT Tryd.prog 20 = true := by kernel_rfl
theorem c22 : Tryd.prog.cellsOf 22 = 1 := by kernel_rfl
theorem b22 : Tryd.prog.bytesOf 22 = 24 := by kernel_rfl
theorem a22 : aggT Tryd.prog 22 = some false := by kernel_rfl
theorem k22 : okT Tryd.prog 22 = true := by kernel_rfl
theorem z22 : zeroOf Tryd.prog 22 = some (.nilS) := by kernel_rfl
theorem e22 : slElem Tryd.prog 22 = some 3 := by kernel_rfl
theorem c23 : Tryd.prog.cellsOf 23 = 1 := by kernel_rfl
theorem b23 : Tryd.prog.bytesOf 23 = 8 := by kernel_rfl
theorem a23 : aggT Tryd.prog 23 = some false := by kernel_rfl
theorem k23 : okT Tryd.prog 23 = true := by kernel_rfl
theorem z23 : zeroOf Tryd.prog 23 = some (.int .i64 0) := by kernel_rfl
theorem c32 : Tryd.prog.cellsOf 32 = 3 := by kernel_rfl
theorem b32 : Tryd.prog.bytesOf 32 = 24 := by kernel_rfl
theorem a32 : aggT Tryd.prog 32 = some true := by kernel_rfl
theorem k32 : okT Tryd.prog 32 = true := by kernel_rfl
theorem z32 : zeroOf Tryd.prog 32 = some (.agg [.int .i64 0, .int .i64 0, .int .i64 0]) := by kernel_rfl
theorem p32 : partsOk Tryd.prog 32 = true := by kernel_rfl
theorem c45 : Tryd.prog.cellsOf 45 = 1 := by kernel_rfl
theorem b45 : Tryd.prog.bytesOf 45 = 24 := by kernel_rfl
theorem a45 : aggT Tryd.prog 45 = some false := by kernel_rfl
theorem k45 : okT Tryd.prog 45 = true := by kernel_rfl
theorem z45 : zeroOf Tryd.prog 45 = some (.nilS) := by kernel_rfl
theorem e45 : slElem Tryd.prog 45 = some 69 := by kernel_rfl
theorem c54 : Tryd.prog.cellsOf 54 = 2 := by kernel_rfl
theorem b54 : Tryd.prog.bytesOf 54 = 32 := by kernel_rfl
theorem a54 : aggT Tryd.prog 54 = some true := by kernel_rfl
theorem k54 : okT Tryd.prog 54 = true := by kernel_rfl
theorem z54 : zeroOf Tryd.prog 54 = some (.agg [.nilS, .int .i64 0]) := by kernel_rfl
theorem p54 : partsOk Tryd.prog 54 = true := by kernel_rfl
theorem c61 : Tryd.prog.cellsOf 61 = 1 := by kernel_rfl
theorem b61 : Tryd.prog.bytesOf 61 = 24 := by kernel_rfl
theorem a61 : aggT Tryd.prog 61 = some false := by kernel_rfl
theorem k61 : okT Tryd.prog 61 = true := by kernel_rfl
theorem z61 : zeroOf Tryd.prog 61 = some (.nilS) := by kernel_rfl
theorem e61 : slElem Tryd.prog 61 = some 22 := by kernel_rfl
theorem c64 : Tryd.prog.cellsOf 64 = 1 := by kernel_rfl
theorem b64 : Tryd.prog.bytesOf 64 = 24 := by kernel_rfl
theorem a64 : aggT Tryd.prog 64 = some false := by kernel_rfl
theorem k64 : okT Tryd.prog 64 = true := by kernel_rfl
theorem z64 : zeroOf Tryd.prog 64 = some (.nilS) := by kernel_rfl
theorem e64 : slElem Tryd.prog 64 = some 54 := by kernel_rfl
theorem c69 : Tryd.prog.cellsOf 69 = 2 := by kernel_rfl
theorem b69 : Tryd.prog.bytesOf 69 = 48 := by kernel_rfl
theorem a69 : aggT Tryd.prog 69 = some true := by kernel_rfl
theorem k69 : okT Tryd.prog 69 = true := by kernel_rfl
theorem z69 : zeroOf Tryd.prog 69 = some (.agg [.nilS, .nilS]) := by kernel_rfl
theorem p69 : partsOk Tryd.prog 69 = true := by kernel_rfl
theorem c76 : Tryd.prog.cellsOf 76 = 2 := by kernel_rfl
theorem b76 : Tryd.prog.bytesOf 76 = 16 := by kernel_rfl
theorem a76 : aggT Tryd.prog 76 = some true := by kernel_rfl
theorem k76 : okT Tryd.prog 76 = true := by kernel_rfl
theorem z76 : zeroOf Tryd.prog 76 = some (.agg [.int .i64 0, .int .i64 0]) := by kernel_rfl
theorem p76 : partsOk Tryd.prog 76 = true := by kernel_rfl
theorem c84 : Tryd.prog.cellsOf 84 = 2 := by kernel_rfl
theorem b84 : Tryd.prog.bytesOf 84 = 16 := by kernel_rfl
theorem a84 : aggT Tryd.prog 84 = some true := by kernel_rfl
theorem k84 : okT Tryd.prog 84 = true := by kernel_rfl
theorem z84 : zeroOf Tryd.prog 84 = some (.agg [.int .i64 0, .int .i64 0]) := by kernel_rfl
theorem p84 : partsOk Tryd.prog 84 = true := by kernel_rfl
theorem c94 : Tryd.prog.cellsOf 94 = 1 := by kernel_rfl
theorem b94 : Tryd.prog.bytesOf 94 = 24 := by kernel_rfl
theorem a94 : aggT Tryd.prog 94 = some false := by kernel_rfl
theorem k94 : okT Tryd.prog 94 = true := by kernel_rfl
theorem z94 : zeroOf Tryd.prog 94 = some (.nilS) := by kernel_rfl
theorem e94 : slElem Tryd.prog 94 = some 9 := by kernel_rfl
theorem c95 : Tryd.prog.cellsOf 95 = 1 := by kernel_rfl
theorem b95 : Tryd.prog.bytesOf 95 = 24 := by kernel_rfl
theorem a95 : aggT Tryd.prog 95 = some false := by kernel_rfl
theorem k95 : okT Tryd.prog 95 = true := by kernel_rfl
theorem z95 : zeroOf Tryd.prog 95 = some (.nilS) := by kernel_rfl
theorem e95 : slElem Tryd.prog 95 = some 23 := by kernel_rfl
theorem c98 : Tryd.prog.cellsOf 98 = 168 := by kernel_rfl
theorem b98 : Tryd.prog.bytesOf 98 = 1344 := by kernel_rfl
theorem a98 : aggT Tryd.prog 98 = some true := by kernel_rfl
theorem k98 : okT Tryd.prog 98 = true := by kernel_rfl
theorem z98 : zeroOf Tryd.prog 98 = some (.agg (List.replicate 168 (.int .i64 0))) := by kernel_rfl
theorem p98 : partsOk Tryd.prog 98 = true := by kernel_rfl
theorem c100 : Tryd.prog.cellsOf 100 = 168 := by kernel_rfl
theorem b100 : Tryd.prog.bytesOf 100 = 1344 := by kernel_rfl
theorem a100 : aggT Tryd.prog 100 = some true := by kernel_rfl
theorem k100 : okT Tryd.prog 100 = true := by kernel_rfl
theorem z100 : zeroOf Tryd.prog 100 = some (.agg (List.replicate 168 (.int .i64 0))) := by kernel_rfl
theorem p100 : partsOk Tryd.prog 100 = true := by kernel_rfl
theorem c116 : Tryd.prog.cellsOf 116 = 1 := by kernel_rfl
theorem b116 : Tryd.prog.bytesOf 116 = 24 := by kernel_rfl
theorem a116 : aggT Tryd.prog 116 = some false := by kernel_rfl
theorem k116 : okT Tryd.prog 116 = true := by kernel_rfl
theorem z116 : zeroOf Tryd.prog 116 = some (.nilS) := by kernel_rfl
theorem e116 : slElem Tryd.prog 116 = some 119 := by kernel_rfl
theorem c119 : Tryd.prog.cellsOf 119 = 2 := by kernel_rfl
theorem b119 : Tryd.prog.bytesOf 119 = 24 := by kernel_rfl
theorem a119 : aggT Tryd.prog 119 = some true := by kernel_rfl
theorem k119 : okT Tryd.prog 119 = true := by kernel_rfl
theorem z119 : zeroOf Tryd.prog 119 = some (.agg [.str [], .int .i64 0]) := by kernel_rfl
theorem p119 : partsOk Tryd.prog 119 = true := by kernel_rfl
theorem c142 : Tryd.prog.cellsOf 142 = 4 := by kernel_rfl
theorem b142 : Tryd.prog.bytesOf 142 = 64 := by kernel_rfl
theorem a142 : aggT Tryd.prog 142 = some true := by kernel_rfl
theorem k142 : okT Tryd.prog 142 = true := by kernel_rfl
theorem z142 : zeroOf Tryd.prog 142 = some (.agg [.nilS, .int .i64 0, .nilS, .int .i64 0]) := by kernel_rfl
theorem p142 : partsOk Tryd.prog 142 = true := by kernel_rfl
theorem c143 : Tryd.prog.cellsOf 143 = 4 := by kernel_rfl
theorem b143 : Tryd.prog.bytesOf 143 = 32 := by kernel_rfl
theorem a143 : aggT Tryd.prog 143 = some true := by kernel_rfl
theorem k143 : okT Tryd.prog 143 = true := by kernel_rfl
theorem z143 : zeroOf Tryd.prog 143 = some (.agg [.int .i64 0, .int .i64 0, .int .i64 0, .int .i64 0]) := by kernel_rfl
theorem p143 : partsOk Tryd.prog 143 = true := by kernel_rfl
theorem c152 : Tryd.prog.cellsOf 152 = 6 := by kernel_rfl
theorem b152 : Tryd.prog.bytesOf 152 = 48 := by kernel_rfl
theorem a152 : aggT Tryd.prog 152 = some true := by kernel_rfl
theorem k152 : okT Tryd.prog 152 = true := by kernel_rfl
theorem z152 : zeroOf Tryd.prog 152 = some (.agg [.int .i64 0, .int .i64 0, .int .i64 0, .int .i64 0, .int .i64 0, .int .i64 0]) := by kernel_rfl
theorem p152 : partsOk Tryd.prog 152 = true := by kernel_rfl
theorem c154 : Tryd.prog.cellsOf 154 = 1 := by kernel_rfl
theorem b154 : Tryd.prog.bytesOf 154 = 8 := by kernel_rfl
theorem a154 : aggT Tryd.prog 154 = some false := by kernel_rfl
theorem k154 : okT Tryd.prog 154 = true := by kernel_rfl
theorem z154 : zeroOf Tryd.prog 154 = some (.int .u64 0) := by kernel_rfl
theorem c157 : Tryd.prog.cellsOf 157 = 1 := by kernel_rfl
theorem b157 : Tryd.prog.bytesOf 157 = 24 := by kernel_rfl
theorem a157 : aggT Tryd.prog 157 = some false := by kernel_rfl
theorem k157 : okT Tryd.prog 157 = true := by kernel_rfl
theorem z157 : zeroOf Tryd.prog 157 = some (.nilS) := by kernel_rfl
theorem e157 : slElem Tryd.prog 157 = some 154 := by kernel_rfl
theorem c159 : Tryd.prog.cellsOf 159 = 2 := by kernel_rfl
theorem b159 : Tryd.prog.bytesOf 159 = 48 := by kernel_rfl
theorem a159 : aggT Tryd.prog 159 = some true := by kernel_rfl
theorem k159 : okT Tryd.prog 159 = true := by kernel_rfl
theorem z159 : zeroOf Tryd.prog 159 = some (.agg [.nilS, .nilS]) := by kernel_rfl
theorem p159 : partsOk Tryd.prog 159 = true := by kernel_rfl
end Go.Proofs.YtpocekfifokndaaDoor
namespace Go.Proofs.YtpocekfifokndaaDoor
open Go Go.Ev Go.Pl
def splitB (c : UInt8) : List UInt8 → List (List UInt8)
  | [] => [[]]
  | b :: bs => if b = c then [] :: splitB c bs else match splitB c bs with | [] => [[b]] | l :: ls => (b :: l) :: ls
def joinB (sep : List UInt8) : List (List UInt8) → List UInt8
  | [] => []
  | [l] => l
  | l :: ls => l ++ sep ++ joinB sep ls
def decB (n : Nat) : List UInt8 := if n < 10 then [UInt8.ofNat (48 + n)] else [UInt8.ofNat (48 + n / 10), UInt8.ofNat (48 + n % 10)]
def strsOf : List V → Option (List (List UInt8))
  | [] => some []
  | .str s :: vs => (strsOf vs).map (s :: ·)
  | _ => none
def extF (f : FuncId) (args : List V) : Option V :=
  if f = 91 then
    match args with
    | [.str s, .str [58]] => if s.length < 4294967281 then some (.sl ((splitB 58 s).map .str)) else none
    | _ => none
  else if f = 130 then
    match args with
    | [.sl es, .str sep] =>
      match strsOf es with
      | some L => if L.length ≤ 140737488355328 ∧ (joinB sep L).length ≤ 140737488355328 then some (.str (joinB sep L)) else none
      | none => none
    | _ => none
  else none
noncomputable def X : Env := { P := Tryd.prog, glob := fun g => if g = 0 then some (.agg [.int .i64 0, .int .i64 1], 76) else none, ext := extF, own := fun _ => false, ints := [1] }
theorem X_P : X.P = Tryd.prog := rfl
theorem X_own (fn : Func) : X.own fn = false := rfl
theorem X_ext {f : FuncId} {args : List V} (h : (f != 91 && f != 130) = true) : X.ext f args = none := by
  simp only [Bool.and_eq_true, bne_iff_ne, ne_eq] at h
  show extF f args = none
  unfold extF
  rw [if_neg h.1, if_neg h.2]
abbrev vi (n : Int) : V := .int .i64 n
abbrev vn (n : Nat) : V := .int .i64 (n : Int)
def ints (l : List Int) : List V := l.map (V.int .i64)
def nats (l : List Nat) : List V := l.map vn
theorem ints_length (a : List Int) : (ints a).length = a.length := by simp [ints]
theorem ints_get? (a : List Int) (i : Nat) : (ints a)[i]? = a[i]?.map (V.int .i64) := by simp [ints]
theorem nats_length (a : List Nat) : (nats a).length = a.length := by simp [nats]
theorem nats_get? (a : List Nat) (i : Nat) : (nats a)[i]? = a[i]?.map vn := by simp [nats]
theorem nats_ints (a : List Nat) : nats a = ints (a.map Int.ofNat) := by simp [nats, ints, Function.comp_def]
theorem nats_append (a b : List Nat) : nats (a ++ b) = nats a ++ nats b := by simp [nats]
def wc (f : Nat → Nat) : List V := tab 168 fun i => vn (f i)
theorem wc_length (f : Nat → Nat) : (wc f).length = 168 := tab_length _ _
theorem wc_get (f : Nat → Nat) {i : Nat} (h : i < 168) : (wc f)[i]? = some (vn (f i)) := tab_get? h
theorem wc_set (f : Nat → Nat) (i v : Nat) : (wc f).set i (vn v) = wc fun j => if j = i then v else f j := by
  unfold wc
  rw [tab_set]
  refine tab_congr fun j _ => ?_
  by_cases h : j = i <;> simp [h]
theorem wc_splice (f : Nat → Nat) {i v : Nat} (h : i < 168) : splice (wc f) i [vn v] = wc fun j => if j = i then v else f j := by
  rw [splice_one (by rw [wc_length]; exact h), wc_set]
theorem wc_loose (f : Nat → Nat) : (wc f).any V.loose = false := by
  rw [Bool.eq_false_iff, ne_eq, List.any_eq_true]
  rintro ⟨x, hx, h⟩
  obtain ⟨i, _, rfl⟩ := List.mem_map.1 hx
  simp [V.loose, V.isNilS, V.transit] at h
theorem wc_nil (f : Nat → Nat) : (wc f).any V.isNilS = false := by
  rw [Bool.eq_false_iff, ne_eq, List.any_eq_true]
  rintro ⟨x, hx, h⟩
  obtain ⟨i, _, rfl⟩ := List.mem_map.1 hx
  simp [V.loose, V.isNilS, V.transit] at h
theorem wc_transit (f : Nat → Nat) : (wc f).any V.transit = false := by
  rw [Bool.eq_false_iff, ne_eq, List.any_eq_true]
  rintro ⟨x, hx, h⟩
  obtain ⟨i, _, rfl⟩ := List.mem_map.1 hx
  simp [V.loose, V.isNilS, V.transit] at h
theorem wc_zero : List.replicate 168 (V.int .i64 0) = wc fun _ => 0 := tab_const
theorem wc_congr {f g : Nat → Nat} (h : ∀ i, i < 168 → f i = g i) : wc f = wc g := tab_congr fun i hi => by rw [h i hi]
theorem wc_take (f : Nat → Nat) : List.take 168 (List.drop 0 (wc f)) = wc f := by rw [List.drop_zero, List.take_of_length_le (by rw [wc_length]; exact Nat.le_refl _)]
theorem wrow {g : Nat} {f1 f2 : Nat → Nat} (h : ∀ i, i < 168 → f1 i = f2 i) : some (Row.mk g 100 false false [V.agg (wc f1)]) = some (Row.mk g 100 false false [V.agg (wc f2)]) := by rw [wc_congr h]
abbrev wv (N : Nat) : V := .agg (wc (dig N))
theorem wv_inj {N M : Nat} (hN : N < 60 ^ 168) (hM : M < 60 ^ 168) (h : wc (dig N) = wc (dig M)) : N = M := by
  refine dig_ext hN hM fun i hi => ?_
  have := tab_inj h i hi
  simp only [V.int.injEq, true_and] at this; exact Int.ofNat.inj this
theorem wv_still (N : Nat) : (wv N).still = true := by simp [V.still, wc_transit]
theorem wv_refs (N : Nat) : (wv N).refs = false := wc_loose _
theorem filled_wc (m : Mem) (s : Nat) (f : Nat → Nat) : filled m s (.agg (wc f)) = (m, .agg (wc f)) := filled_agg m s (wc_nil f)
theorem snap_wc (m : Mem) (f : Nat → Nat) : snap m (.agg (wc f)) = some (.agg (wc f)) := snap_agg m (wc_loose f)
theorem frz_wc (m : Mem) (f : Nat → Nat) : frz m (.agg (wc f)) = m := frz_agg m (wc_loose f)
theorem rowsOf_wc (f : Nat → Nat) : rowsOf (.agg (wc f)) = [] := rowsOf_agg (wc_loose f)
theorem ptrs_wc (f : Nat → Nat) : ptrs (.agg (wc f)) = false := ptrs_agg (wc_loose f)
theorem mv_wc (m : Mem) (f : Nat → Nat) : mv false m (.agg (wc f)) = some (.agg (wc f)) := mv_agg m (wc_loose f)
theorem mv2_wc (m : Mem) (f : Nat → Nat) : mv2 m false (.agg (wc f)) = some (.agg (wc f)) := mv2_agg m (wc_loose f)
theorem depth_wc (d : Nat) (f : Nat → Nat) : V.depthOk d (.agg (wc f)) = true := by simp [V.depthOk, wc_loose]
theorem unNil_wc (m : Mem) (r : Ref) (o : Nat) (f : Nat → Nat) : unNil m r o (.agg (wc f)) = (m, .agg (wc f)) := by
  rw [unNil_agg, if_neg]
  rw [List.any_eq_true]
  rintro ⟨x, hx, h⟩
  obtain ⟨i, _, rfl⟩ := List.mem_map.1 hx
  simp [nilIn] at h
theorem wc_nilIn (m : Mem) (d : Nat) (f : Nat → Nat) : (wc f).any (nilIn m d) = false := by
  rw [Bool.eq_false_iff, ne_eq, List.any_eq_true]
  rintro ⟨x, hx, h⟩
  obtain ⟨i, _, rfl⟩ := List.mem_map.1 hx
  simp [nilIn] at h
theorem wr_nat {a : Nat} (h : a < 9223372036854775808) : wr .i64 (a : Int) = (a : Int) := wr_i64 (by omega) (by omega)
theorem cast_add (a b : Nat) : (a : Int) + (b : Int) = ((a + b : Nat) : Int) := (Int.natCast_add a b).symm
theorem cast_mul (a b : Nat) : (a : Int) * (b : Int) = ((a * b : Nat) : Int) := (Int.natCast_mul a b).symm
theorem cast_add1 (a : Nat) : (a : Int) + 1 = ((a + 1 : Nat) : Int) := rfl
theorem cast_mul60 (a : Nat) : (a : Int) * 60 = ((a * 60 : Nat) : Int) := (Int.natCast_mul a 60).symm
theorem cast_tmod60 (a : Nat) : Int.tmod (a : Int) 60 = ((a % 60 : Nat) : Int) := rfl
theorem cast_tdiv60 (a : Nat) : Int.tdiv (a : Int) 60 = ((a / 60 : Nat) : Int) := rfl
theorem cast_tmod (a b : Nat) : Int.tmod (a : Int) (b : Int) = ((a % b : Nat) : Int) := rfl
theorem cast_tdiv (a b : Nat) : Int.tdiv (a : Int) (b : Int) = ((a / b : Nat) : Int) := rfl
theorem call_of_X {f : FuncId} {fn : Func} {c : Code} {args : List V} {r : Res} (k : Nat) (hf : Tryd.prog.funcs[f]? = some fn) (hb : fn.body = some c) (hok : (codeOk fn.ntmps c && decide (k ≤ fn.ntmps) && (f != 91 && f != 130)) = true)
    (hk : args.length = k) (loose : args.any V.refs = false) (plain : scalarRes Tryd.prog f = true → resPlain r = true) (still : ∀ v, r = .ret v → v.still = true)
    (h : ∀ s : St, s = enter args [] → s.dfs = [] → s.m.out.length = 0 → W X c (endQ X fn (fun r' => r' = r)) s) : Ans X f args r := by
  subst hk
  simp only [Bool.and_eq_true, decide_eq_true_eq] at hok
  exact call_of (X := X) hf hb hok.1 (X_ext (by simp only [Bool.and_eq_true]; exact hok.2)) loose plain still (fun s e hd ho => h s e hd (by rw [ho]; rfl))
end Go.Proofs.YtpocekfifokndaaDoor
namespace Go.Proofs.YtpocekfifokndaaDoor
open Go Go.Ev
theorem sr23 : scalarRes Tryd.prog 23 = false := by kernel_rfl
theorem co23 : callOk Tryd.prog 23 = true := by kernel_rfl
theorem sr24 : scalarRes Tryd.prog 24 = false := by kernel_rfl
theorem co24 : callOk Tryd.prog 24 = true := by kernel_rfl
theorem sr25 : scalarRes Tryd.prog 25 = true := by kernel_rfl
theorem co25 : callOk Tryd.prog 25 = true := by kernel_rfl
theorem sr26 : scalarRes Tryd.prog 26 = true := by kernel_rfl
theorem co26 : callOk Tryd.prog 26 = true := by kernel_rfl
theorem sr27 : scalarRes Tryd.prog 27 = false := by kernel_rfl
theorem co27 : callOk Tryd.prog 27 = true := by kernel_rfl
theorem sr28 : scalarRes Tryd.prog 28 = true := by kernel_rfl
theorem co28 : callOk Tryd.prog 28 = true := by kernel_rfl
theorem sr29 : scalarRes Tryd.prog 29 = true := by kernel_rfl
theorem co29 : callOk Tryd.prog 29 = true := by kernel_rfl
theorem sr30 : scalarRes Tryd.prog 30 = false := by kernel_rfl
theorem co30 : callOk Tryd.prog 30 = true := by kernel_rfl
theorem sr31 : scalarRes Tryd.prog 31 = true := by kernel_rfl
theorem co31 : callOk Tryd.prog 31 = true := by kernel_rfl
theorem sr32 : scalarRes Tryd.prog 32 = false := by kernel_rfl
theorem co32 : callOk Tryd.prog 32 = true := by kernel_rfl
theorem sr33 : scalarRes Tryd.prog 33 = true := by kernel_rfl
theorem co33 : callOk Tryd.prog 33 = true := by kernel_rfl
theorem sr34 : scalarRes Tryd.prog 34 = false := by kernel_rfl
theorem co34 : callOk Tryd.prog 34 = true := by kernel_rfl
theorem sr35 : scalarRes Tryd.prog 35 = false := by kernel_rfl
theorem co35 : callOk Tryd.prog 35 = true := by kernel_rfl
theorem sr36 : scalarRes Tryd.prog 36 = false := by kernel_rfl
theorem co36 : callOk Tryd.prog 36 = true := by kernel_rfl
theorem sr37 : scalarRes Tryd.prog 37 = false := by kernel_rfl
theorem co37 : callOk Tryd.prog 37 = true := by kernel_rfl
theorem sr38 : scalarRes Tryd.prog 38 = true := by kernel_rfl
theorem co38 : callOk Tryd.prog 38 = true := by kernel_rfl
theorem sr39 : scalarRes Tryd.prog 39 = false := by kernel_rfl
theorem co39 : callOk Tryd.prog 39 = true := by kernel_rfl
theorem sr40 : scalarRes Tryd.prog 40 = false := by kernel_rfl
theorem co40 : callOk Tryd.prog 40 = true := by kernel_rfl
theorem sr41 : scalarRes Tryd.prog 41 = false := by kernel_rfl
theorem co41 : callOk Tryd.prog 41 = true := by kernel_rfl
theorem sr42 : scalarRes Tryd.prog 42 = true := by kernel_rfl
theorem co42 : callOk Tryd.prog 42 = true := by kernel_rfl
theorem sr43 : scalarRes Tryd.prog 43 = true := by kernel_rfl
theorem co43 : callOk Tryd.prog 43 = true := by kernel_rfl
theorem sr44 : scalarRes Tryd.prog 44 = false := by kernel_rfl
theorem co44 : callOk Tryd.prog 44 = true := by kernel_rfl
theorem sr45 : scalarRes Tryd.prog 45 = false := by kernel_rfl
theorem co45 : callOk Tryd.prog 45 = true := by kernel_rfl
theorem sr46 : scalarRes Tryd.prog 46 = false := by kernel_rfl
theorem co46 : callOk Tryd.prog 46 = true := by kernel_rfl
theorem sr47 : scalarRes Tryd.prog 47 = false := by kernel_rfl
theorem co47 : callOk Tryd.prog 47 = true := by kernel_rfl
theorem sr48 : scalarRes Tryd.prog 48 = true := by kernel_rfl
theorem co48 : callOk Tryd.prog 48 = true := by kernel_rfl
theorem sr49 : scalarRes Tryd.prog 49 = false := by kernel_rfl
theorem co49 : callOk Tryd.prog 49 = true := by kernel_rfl
theorem sr50 : scalarRes Tryd.prog 50 = false := by kernel_rfl
theorem co50 : callOk Tryd.prog 50 = true := by kernel_rfl
theorem sr51 : scalarRes Tryd.prog 51 = false := by kernel_rfl
theorem co51 : callOk Tryd.prog 51 = true := by kernel_rfl
theorem sr52 : scalarRes Tryd.prog 52 = false := by kernel_rfl
theorem co52 : callOk Tryd.prog 52 = true := by kernel_rfl
theorem sr53 : scalarRes Tryd.prog 53 = false := by kernel_rfl
theorem co53 : callOk Tryd.prog 53 = true := by kernel_rfl
theorem sr54 : scalarRes Tryd.prog 54 = false := by kernel_rfl
theorem co54 : callOk Tryd.prog 54 = true := by kernel_rfl
theorem sr55 : scalarRes Tryd.prog 55 = false := by kernel_rfl
theorem co55 : callOk Tryd.prog 55 = true := by kernel_rfl
theorem sr56 : scalarRes Tryd.prog 56 = false := by kernel_rfl
theorem co56 : callOk Tryd.prog 56 = true := by kernel_rfl
theorem sr57 : scalarRes Tryd.prog 57 = true := by kernel_rfl
theorem co57 : callOk Tryd.prog 57 = true := by kernel_rfl
theorem sr58 : scalarRes Tryd.prog 58 = true := by kernel_rfl
theorem co58 : callOk Tryd.prog 58 = true := by kernel_rfl
theorem sr59 : scalarRes Tryd.prog 59 = true := by kernel_rfl
theorem co59 : callOk Tryd.prog 59 = true := by kernel_rfl
theorem sr60 : scalarRes Tryd.prog 60 = true := by kernel_rfl
theorem co60 : callOk Tryd.prog 60 = true := by kernel_rfl
theorem sr61 : scalarRes Tryd.prog 61 = false := by kernel_rfl
theorem co61 : callOk Tryd.prog 61 = true := by kernel_rfl
theorem sr62 : scalarRes Tryd.prog 62 = false := by kernel_rfl
theorem co62 : callOk Tryd.prog 62 = true := by kernel_rfl
theorem sr63 : scalarRes Tryd.prog 63 = false := by kernel_rfl
theorem co63 : callOk Tryd.prog 63 = true := by kernel_rfl
theorem sr64 : scalarRes Tryd.prog 64 = false := by kernel_rfl
theorem co64 : callOk Tryd.prog 64 = true := by kernel_rfl
theorem sr65 : scalarRes Tryd.prog 65 = false := by kernel_rfl
theorem co65 : callOk Tryd.prog 65 = true := by kernel_rfl
theorem sr66 : scalarRes Tryd.prog 66 = false := by kernel_rfl
theorem co66 : callOk Tryd.prog 66 = true := by kernel_rfl
theorem sr67 : scalarRes Tryd.prog 67 = false := by kernel_rfl
theorem co67 : callOk Tryd.prog 67 = true := by kernel_rfl
theorem sr68 : scalarRes Tryd.prog 68 = true := by kernel_rfl
theorem co68 : callOk Tryd.prog 68 = true := by kernel_rfl
theorem sr69 : scalarRes Tryd.prog 69 = false := by kernel_rfl
theorem co69 : callOk Tryd.prog 69 = true := by kernel_rfl
theorem sr70 : scalarRes Tryd.prog 70 = true := by kernel_rfl
theorem co70 : callOk Tryd.prog 70 = true := by kernel_rfl
theorem sr71 : scalarRes Tryd.prog 71 = false := by kernel_rfl
theorem co71 : callOk Tryd.prog 71 = true := by kernel_rfl
theorem sr72 : scalarRes Tryd.prog 72 = true := by kernel_rfl
theorem co72 : callOk Tryd.prog 72 = true := by kernel_rfl
theorem sr73 : scalarRes Tryd.prog 73 = true := by kernel_rfl
theorem co73 : callOk Tryd.prog 73 = true := by kernel_rfl
theorem sr74 : scalarRes Tryd.prog 74 = true := by kernel_rfl
theorem co74 : callOk Tryd.prog 74 = true := by kernel_rfl
theorem sr75 : scalarRes Tryd.prog 75 = true := by kernel_rfl
theorem co75 : callOk Tryd.prog 75 = true := by kernel_rfl
theorem sr76 : scalarRes Tryd.prog 76 = true := by kernel_rfl
theorem co76 : callOk Tryd.prog 76 = true := by kernel_rfl
theorem sr77 : scalarRes Tryd.prog 77 = false := by kernel_rfl
theorem co77 : callOk Tryd.prog 77 = true := by kernel_rfl
theorem sr78 : scalarRes Tryd.prog 78 = true := by kernel_rfl
theorem co78 : callOk Tryd.prog 78 = true := by kernel_rfl
theorem sr79 : scalarRes Tryd.prog 79 = false := by kernel_rfl
theorem co79 : callOk Tryd.prog 79 = true := by kernel_rfl
theorem sr80 : scalarRes Tryd.prog 80 = false := by kernel_rfl
theorem co80 : callOk Tryd.prog 80 = true := by kernel_rfl
theorem sr81 : scalarRes Tryd.prog 81 = false := by kernel_rfl
theorem co81 : callOk Tryd.prog 81 = true := by kernel_rfl
theorem sr82 : scalarRes Tryd.prog 82 = true := by kernel_rfl
theorem co82 : callOk Tryd.prog 82 = true := by kernel_rfl
theorem sr83 : scalarRes Tryd.prog 83 = false := by kernel_rfl
theorem co83 : callOk Tryd.prog 83 = true := by kernel_rfl
theorem sr84 : scalarRes Tryd.prog 84 = false := by kernel_rfl
theorem co84 : callOk Tryd.prog 84 = true := by kernel_rfl
theorem sr85 : scalarRes Tryd.prog 85 = false := by kernel_rfl
theorem co85 : callOk Tryd.prog 85 = true := by kernel_rfl
theorem sr86 : scalarRes Tryd.prog 86 = false := by kernel_rfl
theorem co86 : callOk Tryd.prog 86 = true := by kernel_rfl
theorem sr87 : scalarRes Tryd.prog 87 = false := by kernel_rfl
theorem co87 : callOk Tryd.prog 87 = true := by kernel_rfl
theorem sr88 : scalarRes Tryd.prog 88 = false := by kernel_rfl
theorem co88 : callOk Tryd.prog 88 = true := by kernel_rfl
theorem sr89 : scalarRes Tryd.prog 89 = false := by kernel_rfl
theorem co89 : callOk Tryd.prog 89 = true := by kernel_rfl
theorem sr90 : scalarRes Tryd.prog 90 = false := by kernel_rfl
theorem co90 : callOk Tryd.prog 90 = true := by kernel_rfl
theorem sr91 : scalarRes Tryd.prog 91 = false := by kernel_rfl
theorem co91 : callOk Tryd.prog 91 = true := by kernel_rfl
theorem sr92 : scalarRes Tryd.prog 92 = true := by kernel_rfl
theorem co92 : callOk Tryd.prog 92 = true := by kernel_rfl
theorem sr93 : scalarRes Tryd.prog 93 = false := by kernel_rfl
theorem co93 : callOk Tryd.prog 93 = true := by kernel_rfl
theorem sr94 : scalarRes Tryd.prog 94 = true := by kernel_rfl
theorem co94 : callOk Tryd.prog 94 = true := by kernel_rfl
theorem sr95 : scalarRes Tryd.prog 95 = false := by kernel_rfl
theorem co95 : callOk Tryd.prog 95 = true := by kernel_rfl
theorem sr96 : scalarRes Tryd.prog 96 = false := by kernel_rfl
theorem co96 : callOk Tryd.prog 96 = true := by kernel_rfl
theorem sr97 : scalarRes Tryd.prog 97 = true := by kernel_rfl
theorem co97 : callOk Tryd.prog 97 = true := by kernel_rfl
theorem sr98 : scalarRes Tryd.prog 98 = false := by kernel_rfl
theorem co98 : callOk Tryd.prog 98 = true := by kernel_rfl
theorem sr99 : scalarRes Tryd.prog 99 = false := by kernel_rfl
theorem co99 : callOk Tryd.prog 99 = true := by kernel_rfl
theorem sr100 : scalarRes Tryd.prog 100 = false := by kernel_rfl
theorem co100 : callOk Tryd.prog 100 = true := by kernel_rfl
theorem sr101 : scalarRes Tryd.prog 101 = false := by kernel_rfl
theorem co101 : callOk Tryd.prog 101 = true := by kernel_rfl
theorem sr102 : scalarRes Tryd.prog 102 = false := by kernel_rfl
theorem co102 : callOk Tryd.prog 102 = true := by kernel_rfl
theorem sr103 : scalarRes Tryd.prog 103 = true := by kernel_rfl
theorem co103 : callOk Tryd.prog 103 = true := by kernel_rfl
theorem sr104 : scalarRes Tryd.prog 104 = false := by kernel_rfl
theorem co104 : callOk Tryd.prog 104 = true := by kernel_rfl
theorem sr105 : scalarRes Tryd.prog 105 = true := by kernel_rfl
theorem co105 : callOk Tryd.prog 105 = true := by kernel_rfl
theorem sr106 : scalarRes Tryd.prog 106 = true := by kernel_rfl
theorem co106 : callOk Tryd.prog 106 = true := by kernel_rfl
theorem sr107 : scalarRes Tryd.prog 107 = false := by kernel_rfl
theorem co107 : callOk Tryd.prog 107 = true := by kernel_rfl
theorem sr108 : scalarRes Tryd.prog 108 = false := by kernel_rfl
theorem co108 : callOk Tryd.prog 108 = true := by kernel_rfl
theorem sr109 : scalarRes Tryd.prog 109 = false := by kernel_rfl
theorem co109 : callOk Tryd.prog 109 = true := by kernel_rfl
theorem sr110 : scalarRes Tryd.prog 110 = false := by kernel_rfl
theorem co110 : callOk Tryd.prog 110 = true := by kernel_rfl
theorem sr111 : scalarRes Tryd.prog 111 = true := by kernel_rfl
theorem co111 : callOk Tryd.prog 111 = true := by kernel_rfl
theorem sr112 : scalarRes Tryd.prog 112 = true := by kernel_rfl
theorem co112 : callOk Tryd.prog 112 = true := by kernel_rfl
theorem sr113 : scalarRes Tryd.prog 113 = false := by kernel_rfl
theorem co113 : callOk Tryd.prog 113 = true := by kernel_rfl
theorem sr114 : scalarRes Tryd.prog 114 = false := by kernel_rfl
theorem co114 : callOk Tryd.prog 114 = true := by kernel_rfl
theorem sr115 : scalarRes Tryd.prog 115 = false := by kernel_rfl
theorem co115 : callOk Tryd.prog 115 = true := by kernel_rfl
theorem sr116 : scalarRes Tryd.prog 116 = false := by kernel_rfl
theorem co116 : callOk Tryd.prog 116 = true := by kernel_rfl
theorem sr117 : scalarRes Tryd.prog 117 = false := by kernel_rfl
theorem co117 : callOk Tryd.prog 117 = true := by kernel_rfl
theorem sr118 : scalarRes Tryd.prog 118 = false := by kernel_rfl
theorem co118 : callOk Tryd.prog 118 = true := by kernel_rfl
theorem sr119 : scalarRes Tryd.prog 119 = false := by kernel_rfl
theorem co119 : callOk Tryd.prog 119 = true := by kernel_rfl
theorem sr120 : scalarRes Tryd.prog 120 = false := by kernel_rfl
theorem co120 : callOk Tryd.prog 120 = true := by kernel_rfl
theorem sr121 : scalarRes Tryd.prog 121 = false := by kernel_rfl
theorem co121 : callOk Tryd.prog 121 = true := by kernel_rfl
theorem sr122 : scalarRes Tryd.prog 122 = true := by kernel_rfl
theorem co122 : callOk Tryd.prog 122 = true := by kernel_rfl
theorem sr123 : scalarRes Tryd.prog 123 = true := by kernel_rfl
theorem co123 : callOk Tryd.prog 123 = true := by kernel_rfl
theorem sr124 : scalarRes Tryd.prog 124 = false := by kernel_rfl
theorem co124 : callOk Tryd.prog 124 = true := by kernel_rfl
theorem sr125 : scalarRes Tryd.prog 125 = true := by kernel_rfl
theorem co125 : callOk Tryd.prog 125 = true := by kernel_rfl
theorem sr126 : scalarRes Tryd.prog 126 = false := by kernel_rfl
theorem co126 : callOk Tryd.prog 126 = true := by kernel_rfl
theorem sr127 : scalarRes Tryd.prog 127 = false := by kernel_rfl
theorem co127 : callOk Tryd.prog 127 = true := by kernel_rfl
theorem sr128 : scalarRes Tryd.prog 128 = false := by kernel_rfl
theorem co128 : callOk Tryd.prog 128 = true := by kernel_rfl
theorem sr129 : scalarRes Tryd.prog 129 = true := by kernel_rfl
theorem co129 : callOk Tryd.prog 129 = true := by kernel_rfl
theorem sr130 : scalarRes Tryd.prog 130 = true := by kernel_rfl
theorem co130 : callOk Tryd.prog 130 = true := by kernel_rfl
theorem sr131 : scalarRes Tryd.prog 131 = true := by kernel_rfl
theorem co131 : callOk Tryd.prog 131 = true := by kernel_rfl
theorem sr132 : scalarRes Tryd.prog 132 = true := by kernel_rfl
theorem co132 : callOk Tryd.prog 132 = true := by kernel_rfl
theorem sr133 : scalarRes Tryd.prog 133 = true := by kernel_rfl
theorem co133 : callOk Tryd.prog 133 = true := by kernel_rfl
theorem sr134 : scalarRes Tryd.prog 134 = true := by kernel_rfl
theorem co134 : callOk Tryd.prog 134 = true := by kernel_rfl
theorem sr135 : scalarRes Tryd.prog 135 = false := by kernel_rfl
theorem co135 : callOk Tryd.prog 135 = true := by kernel_rfl
theorem sr136 : scalarRes Tryd.prog 136 = false := by kernel_rfl
theorem co136 : callOk Tryd.prog 136 = true := by kernel_rfl
theorem sr137 : scalarRes Tryd.prog 137 = true := by kernel_rfl
theorem co137 : callOk Tryd.prog 137 = true := by kernel_rfl
theorem sr138 : scalarRes Tryd.prog 138 = true := by kernel_rfl
theorem co138 : callOk Tryd.prog 138 = true := by kernel_rfl
theorem sr139 : scalarRes Tryd.prog 139 = true := by kernel_rfl
theorem co139 : callOk Tryd.prog 139 = true := by kernel_rfl
theorem sr140 : scalarRes Tryd.prog 140 = true := by kernel_rfl
theorem co140 : callOk Tryd.prog 140 = true := by kernel_rfl
theorem sr141 : scalarRes Tryd.prog 141 = true := by kernel_rfl
theorem co141 : callOk Tryd.prog 141 = true := by kernel_rfl
theorem sr142 : scalarRes Tryd.prog 142 = true := by kernel_rfl
theorem co142 : callOk Tryd.prog 142 = true := by kernel_rfl
theorem sr143 : scalarRes Tryd.prog 143 = true := by kernel_rfl
theorem co143 : callOk Tryd.prog 143 = true := by kernel_rfl
theorem sr144 : scalarRes Tryd.prog 144 = true := by kernel_rfl
theorem co144 : callOk Tryd.prog 144 = true := by kernel_rfl
theorem sr145 : scalarRes Tryd.prog 145 = false := by kernel_rfl
theorem co145 : callOk Tryd.prog 145 = true := by kernel_rfl
theorem cut_one (v : V) : cut [v] 0 1 = [v] := rfl
theorem cut_nats (l : List Nat) : cut (nats l) 0 l.length = nats l := by unfold cut; rw [List.drop_zero, List.take_of_length_le (by simp [nats])]
theorem cut_nats_take (l : List Nat) (n : Nat) : cut (nats l) 0 n = nats (l.take n) := by simp [cut, nats, List.map_take]
theorem nats_snoc (l : List Nat) (d : Nat) : nats l ++ [vn d] = nats (l ++ [d]) := by simp [nats]
theorem nats_nil : nats [] = [] := rfl
theorem nats_width (l : List Nat) : (nats l).all (fun v => decide (v.width = 1)) = true := by
  simp only [nats, List.all_map, List.all_eq_true]; intro x _; rfl
theorem ints_width (l : List Int) : (ints l).all (fun v => decide (v.width = 1)) = true := by
  simp only [ints, List.all_map, List.all_eq_true]; intro x _; rfl
theorem nats_set (l : List Nat) (i d : Nat) : (nats l).set i (vn d) = nats (l.set i d) := by simp [nats, List.map_set]
theorem nats_zero (n : Nat) : List.replicate n (V.int .i64 0) = nats (List.replicate n 0) := by simp [nats]
theorem maxLen_eq : maxLen = 1099511627776 := rfl
def Held (m : Mem) (s i : Nat) (v : V) (l : List Nat) : Prop := ∃ g ty, v = .rs ⟨0, s, i, g⟩ ty 0 l.length ∧ m.row ⟨0, s, i, g⟩ = some ⟨g, ty, true, false, nats l⟩ ∧ (ty = 3 ∨ ty = 0 ∧ l.length = 0)
end Go.Proofs.YtpocekfifokndaaDoor
namespace Go.Ev
set_option maxRecDepth 100000
abbrev SA := And.intro @WL_cons_iff <| And.intro @WL_nil_iff <| And.intro @next_defer <| And.intro @next_val <| And.intro @next_skip <| And.intro @next_call <| And.intro @next_panic <| And.intro @Go.Ev.wantedV.eq_1 <| And.intro @arr_toList <| And.intro @arr_get? <| And.intro @Go.Ev.put.eq_1 <| And.intro @Go.Ev.put.eq_2 <| And.intro @Option.bind_some.{0, 0} <| And.intro @Option.map_some.{0, 0} <| And.intro @Option.getD_some.{0} <| And.intro @Option.getD_none.{0} <| And.intro @Option.map_none.{0, 0} <| And.intro @evOp_move <| And.intro @evOp_assign <| And.intro @evOp_pick <| And.intro @evOp_alloc <| And.intro @evOp_box <| And.intro @evOp_build <| And.intro @evOp_buildSlice <| And.intro @evOp_load <| And.intro @evOp_store <| And.intro @evOp_nilCheck <| And.intro @evOp_binOp <| And.intro @evOp_unOp <| And.intro @evOp_convert <| And.intro @evOp_makeInterface <| And.intro @evOp_makeFunc <| And.intro @evOp_makeSlice <| And.intro @evOp_slice <| And.intro @evOp_fieldAddr <| And.intro @evOp_field <| And.intro @evOp_indexAddr <| And.intro @evOp_index <| And.intro @evOp_extract <| And.intro @evOp_typeAssert <| And.intro @evOp_call <| And.intro @evOp_defer <| And.intro @evOp_panic <| And.intro @Go.Ev.opd.eq_1 <| And.intro @Go.Ev.opd.eq_2 <| And.intro @Go.Ev.opd.eq_3 <| And.intro @Go.Ev.opd.eq_4 <| And.intro @Tm.get_setb <| And.intro @cond_true.{0} <| And.intro @cond_true.{1} <| And.intro @cond_false.{0} <| And.intro @cond_false.{1} <| And.intro @ne_eq.{0} <| And.intro @ne_eq.{1} <| And.intro @not_false_eq_true <| And.intro @if_true.{0} <| And.intro @if_true.{1} <| And.intro @if_false.{0} <| And.intro @if_false.{1} <| And.intro @Option.isNone_none.{0} <| And.intro @Bool.and_self <| And.intro @Bool.and_true <| And.intro @beq_self_eq_true.{0} <| And.intro @filled_rs <| And.intro @filled_nilS <| And.intro @Go.Ev.mapOpd.eq_1 <| And.intro @List.map_cons.{0, 0} <| And.intro @List.map_nil.{0, 0} <| And.intro @List.getElem?_toArray.{0} <| And.intro @List.toList_toArray.{0} <| And.intro @filled_int <| And.intro @filled_bool <| And.intro @filled_str <| And.intro @filled_sl <| And.intro @filled_ifc <| And.intro @filled_nilI <| And.intro @filled_ptr <| And.intro @filled_fn <| And.intro @snaps_nil <| And.intro @snaps_cons <| And.intro @snap_int <| And.intro @snap_bool <| And.intro @snap_str <| And.intro @snap_sl <| And.intro @snap_nilS <| And.intro @snap_ifc <| And.intro @snap_nilI <| And.intro @snap_rs <| And.intro @snap_ptr <| And.intro @snap_cptr <| And.intro @snap_fn <| And.intro @frzs_nil <| And.intro @frzs_cons <| And.intro @frz_int <| And.intro @frz_bool <| And.intro @frz_str <| And.intro @frz_sl <| And.intro @frz_nilS <| And.intro @frz_ifc <| And.intro @frz_nilI <| And.intro @frz_ptr <| And.intro @frz_cptr <| And.intro @frz_fn <| And.intro @frz_rs <| And.intro @unNil_int <| And.intro @unNil_bool <| And.intro @unNil_str <| And.intro @unNil_sl <| And.intro @unNil_ifc <| And.intro @unNil_nilI <| And.intro @unNil_ptr <| And.intro @unNil_fn <| And.intro @unNil_rs <| And.intro @unNil_nilS <| And.intro @Nat.lt_irrefl <| And.intro @Go.Ev.setElem.eq_1 <| And.intro @Nat.zero_add <| And.intro @Nat.add_zero <| And.intro @Nat.mul_one <| And.intro @Nat.one_mul <| And.intro @Mem.newRef_eq <| And.intro @Mem.gen_nil <| And.intro @Mem.gen_new <| And.intro @Mem.gen_set <| And.intro @Mem.row_new <| And.intro @Mem.row_setW <| And.intro @Mem.new_out <| And.intro @Mem.set_out <| And.intro @List.length_nil.{0} <| And.intro @List.length_cons.{0} <| And.intro @Nat.zero_le <| And.intro @Nat.le_refl <| And.intro @and_self <| And.intro @and_true <| And.intro @true_and <| And.intro @List.set_cons_zero.{0} <| And.intro @List.set_cons_succ.{0} <| And.intro @false_and <| And.intro @and_false <| And.intro @or_false <| And.intro @false_or <| And.intro @or_true <| And.intro @true_or <| And.intro @List.any_cons.{0} <| And.intro @List.any_nil.{0} <| And.intro @Bool.or_false <| And.intro @Bool.false_or <| And.intro @Bool.or_true <| And.intro @Bool.true_or <| And.intro @List.isEmpty_nil.{0} <| And.intro @List.isEmpty_cons.{0} <| And.intro @refs_int <| And.intro @refs_bool <| And.intro @refs_str <| And.intro @refs_sl <| And.intro @refs_ifc <| And.intro @refs_nilI <| And.intro @refs_ptr <| And.intro @refs_rs <| And.intro @refs_fn <| And.intro @refs_agg <| And.intro @loose_int <| And.intro @loose_bool <| And.intro @loose_str <| And.intro @loose_sl <| And.intro @loose_ifc <| And.intro @loose_nilI <| And.intro @loose_nilS <| And.intro @loose_ptr <| And.intro @loose_rs <| And.intro @loose_fn <| And.intro @Go.Ev.pick.eq_1 <| And.intro @Go.Ev.part.eq_1 <| And.intro @width_int <| And.intro @width_bool <| And.intro @width_str <| And.intro @width_sl <| And.intro @width_rs <| And.intro @width_nilS <| And.intro @width_nilI <| And.intro @width_ifc <| And.intro @width_ptr <| And.intro @width_cptr <| And.intro @width_fn <| And.intro @width_agg <| And.intro @Int.toNat_natCast <| And.intro @ite_yes.{0} <| And.intro @ite_yes.{1} <| And.intro @beq_iff_eq.{0} <| And.intro @decide_eq_true_eq <| And.intro @List.nil_append.{0} <| And.intro @List.append_nil.{0} <| And.intro @Option.some.injEq.{0} <| And.intro @ite_true.{0} <| And.intro @ite_true.{1} <| And.intro @ite_false.{0} <| And.intro @ite_false.{1} <| And.intro @Bool.false_eq_true <| And.intro @decide_true <| And.intro @decide_false <| And.intro @List.getElem?_cons_zero.{0} <| And.intro @List.getElem?_cons_succ.{0} <| And.intro @Bool.not_true <| @Bool.not_false
abbrev SD := And.intro @WD_nil <| And.intro @WD_cons <| And.intro @nextD_val <| And.intro @nextD_skip <| And.intro @nextD_call <| And.intro @footD_def <| And.intro @fok_idle <| And.intro @Foot_none <| And.intro @foot_load <| And.intro @foot_store <| And.intro @foot_assign <| And.intro @foot_alloc <| And.intro @foot_box <| And.intro @foot_build <| And.intro @foot_makeSlice <| And.intro @foot_buildSlice <| And.intro @foot_makeFunc <| And.intro @foot_append <| And.intro @foot_len <| And.intro @foot_min <| And.intro @foot_max <| And.intro @foot_call <| And.intro @foot_move <| And.intro @foot_pick <| And.intro @foot_binOp <| And.intro @foot_unOp <| And.intro @foot_convert <| And.intro @foot_nilCheck <| And.intro @foot_makeInterface <| And.intro @foot_slice <| And.intro @foot_fieldAddr <| And.intro @foot_field <| And.intro @foot_indexAddr <| And.intro @foot_index <| And.intro @foot_extract <| And.intro @rowsOf_int <| And.intro @rowsOf_bool <| And.intro @rowsOf_str <| And.intro @rowsOf_sl <| And.intro @rowsOf_nilS <| And.intro @rowsOf_cptr <| And.intro @rowsOf_ifc <| And.intro @rowsOf_fn <| And.intro @rowsOf_ptr <| And.intro @rowsOf_rs <| And.intro @ptrs_int <| And.intro @ptrs_bool <| And.intro @ptrs_str <| And.intro @ptrs_sl <| And.intro @ptrs_rs <| And.intro @ptrs_nilS <| And.intro @ptrs_ifc <| And.intro @ptrs_ptr <| And.intro @ptrs_fn <| And.intro @List.flatMap_cons.{0, 0} <| And.intro @List.flatMap_nil.{0, 0} <| And.intro @List.any_cons.{0} <| And.intro @List.any_nil.{0} <| And.intro @Bool.or_false <| And.intro @Bool.false_or <| And.intro @Bool.or_true <| And.intro @Bool.true_or <| And.intro @List.isEmpty_nil.{0} <| And.intro @Bool.not_true <| And.intro @List.cons_append.{0} <| @List.nil_append.{0}
abbrev SO := And.intro @Go.Ev.opd.eq_1 <| And.intro @Go.Ev.opd.eq_2 <| And.intro @Go.Ev.opd.eq_3 <| And.intro @Go.Ev.opd.eq_4 <| And.intro @Tm.get_setb <| And.intro @cond_true.{0} <| And.intro @cond_true.{1} <| And.intro @cond_false.{0} <| And.intro @cond_false.{1} <| And.intro @ne_eq.{0} <| And.intro @ne_eq.{1} <| And.intro @not_false_eq_true <| And.intro @if_true.{0} <| And.intro @if_true.{1} <| And.intro @if_false.{0} <| And.intro @if_false.{1} <| And.intro @Option.isNone_none.{0} <| And.intro @Bool.and_self <| And.intro @Bool.and_true <| And.intro @beq_self_eq_true.{0} <| And.intro @filled_rs <| @filled_nilS
end Go.Ev
namespace Go.Proofs.YtpocekfifokndaaDoor
open Go Go.Ev Go.Pl
abbrev SPx := And.intro @X_P <| And.intro @Tryd.underlying3 <| And.intro @c3 <| And.intro @b3 <| And.intro @a3 <| And.intro @k3 <| And.intro @z3 <| And.intro @Tryd.underlying4 <| And.intro @c4 <| And.intro @b4 <| And.intro @a4 <| And.intro @k4 <| And.intro @z4 <| And.intro @Tryd.underlying5 <| And.intro @c5 <| And.intro @b5 <| And.intro @a5 <| And.intro @k5 <| And.intro @z5 <| And.intro @Tryd.underlying9 <| And.intro @c9 <| And.intro @b9 <| And.intro @a9 <| And.intro @k9 <| And.intro @z9 <| And.intro @Tryd.underlying20 <| And.intro @c20 <| And.intro @b20 <| And.intro @a20 <| And.intro @k20 <| And.intro @Tryd.underlying22 <| And.intro @c22 <| And.intro @b22 <| And.intro @a22 <| And.intro @k22 <| And.intro @z22 <| And.intro @e22 <| And.intro @Tryd.underlying23 <| And.intro @c23 <| And.intro @b23 <| And.intro @a23 <| And.intro @k23 <| And.intro @z23 <| And.intro @Tryd.underlying32 <| And.intro @c32 <| And.intro @b32 <| And.intro @a32 <| And.intro @k32 <| And.intro @z32 <| And.intro @p32 <| And.intro @Tryd.underlying45 <| And.intro @c45 <| And.intro @b45 <| And.intro @a45 <| And.intro @k45 <| And.intro @z45 <| And.intro @e45 <| And.intro @Tryd.underlying54 <| And.intro @c54 <| And.intro @b54 <| And.intro @a54 <| And.intro @k54 <| And.intro @z54 <| And.intro @p54 <| And.intro @Tryd.underlying61 <| And.intro @c61 <| And.intro @b61 <| And.intro @a61 <| And.intro @k61 <| And.intro @z61 <| And.intro @e61 <| And.intro @Tryd.underlying64 <| And.intro @c64 <| And.intro @b64 <| And.intro @a64 <| And.intro @k64 <| And.intro @z64 <| And.intro @e64 <| And.intro @Tryd.underlying69 <| And.intro @c69 <| And.intro @b69 <| And.intro @a69 <| And.intro @k69 <| And.intro @z69 <| And.intro @p69 <| And.intro @Tryd.underlying76 <| And.intro @c76 <| And.intro @b76 <| And.intro @a76 <| And.intro @k76 <| And.intro @z76 <| And.intro @p76 <| And.intro @Tryd.underlying84 <| And.intro @c84 <| And.intro @b84 <| And.intro @a84 <| And.intro @k84 <| And.intro @z84 <| And.intro @p84 <| And.intro @Tryd.underlying94 <| And.intro @c94 <| And.intro @b94 <| And.intro @a94 <| And.intro @k94 <| And.intro @z94 <| And.intro @e94 <| And.intro @Tryd.underlying95 <| And.intro @c95 <| And.intro @b95 <| And.intro @a95 <| And.intro @k95 <| And.intro @z95 <| And.intro @e95 <| And.intro @Tryd.underlying98 <| And.intro @c98 <| And.intro @b98 <| And.intro @a98 <| And.intro @k98 <| And.intro @z98 <| And.intro @p98 <| And.intro @Tryd.underlying100 <| And.intro @c100 <| And.intro @b100 <| And.intro @a100 <| And.intro @k100 <| And.intro @z100 <| And.intro @p100 <| And.intro @Tryd.underlying116 <| And.intro @c116 <| And.intro @b116 <| And.intro @a116 <| And.intro @k116 <| And.intro @z116 <| And.intro @e116 <| And.intro @Tryd.underlying119 <| And.intro @c119 <| And.intro @b119 <| And.intro @a119 <| And.intro @k119 <| And.intro @z119 <| And.intro @p119 <| And.intro @Tryd.underlying142 <| And.intro @c142 <| And.intro @b142 <| And.intro @a142 <| And.intro @k142 <| And.intro @z142 <| And.intro @p142 <| And.intro @Tryd.underlying143 <| And.intro @c143 <| And.intro @b143 <| And.intro @a143 <| And.intro @k143 <| And.intro @z143 <| And.intro @p143 <| And.intro @Tryd.underlying152 <| And.intro @c152 <| And.intro @b152 <| And.intro @a152 <| And.intro @k152 <| And.intro @z152 <| And.intro @p152 <| And.intro @Tryd.underlying154 <| And.intro @c154 <| And.intro @b154 <| And.intro @a154 <| And.intro @k154 <| And.intro @z154 <| And.intro @Tryd.underlying157 <| And.intro @c157 <| And.intro @b157 <| And.intro @a157 <| And.intro @k157 <| And.intro @z157 <| And.intro @e157 <| And.intro @Tryd.underlying159 <| And.intro @c159 <| And.intro @b159 <| And.intro @a159 <| And.intro @k159 <| And.intro @z159 <| @p159
abbrev SWx := And.intro @wc_length <| And.intro @wc_get <| And.intro @wc_splice <| And.intro @wc_loose <| And.intro @wc_nil <| And.intro @wc_zero <| And.intro @wc_take <| And.intro @filled_wc <| And.intro @snap_wc <| And.intro @frz_wc <| And.intro @rowsOf_wc <| And.intro @ptrs_wc <| And.intro @mv_wc <| And.intro @mv2_wc <| And.intro @depth_wc <| And.intro @unNil_wc <| @wc_nilIn
abbrev SSx := And.intro @cut_one <| And.intro @cut_nats <| And.intro @nats_snoc <| And.intro @nats_length <| And.intro @nats_width <| And.intro @ints_width <| And.intro @maxLen_eq <| And.intro @Go.Ev.fillElems.eq_1 <| And.intro @Go.Ev.fillElems.eq_2 <| And.intro @Go.Ev.elemOk.eq_1 <| And.intro @List.zip_cons_cons.{0, 0} <| And.intro @List.zip_nil_left.{0, 0} <| And.intro @List.zip_nil_right.{0, 0} <| And.intro @List.replicate_one.{0} <| And.intro @List.all_cons.{0} <| And.intro @List.all_nil.{0} <| And.intro @Option.isSome_some.{0} <| And.intro @Nat.le_refl <| And.intro @List.length_append.{0} <| And.intro @List.map_cons.{0, 0} <| And.intro @List.map_nil.{0, 0} <| And.intro @Bool.and_true <| And.intro @Bool.true_and <| And.intro @Go.Ev.bounds.eq_1 <| And.intro @Go.Ev.loOf.eq_1 <| And.intro @Go.Ev.loOf.eq_2 <| And.intro @Go.Ev.hiOf.eq_1 <| And.intro @Go.Ev.hiOf.eq_2 <| @Bool.not_false
abbrev SAx := And.intro @unNil_agg <| And.intro @nilIn_int <| And.intro @nilIn_bool <| And.intro @nilIn_str <| And.intro @nilIn_sl <| And.intro @nilIn_nilS <| And.intro @nilIn_rs <| And.intro @Go.Ev.unNilL.eq_1 <| And.intro @Go.Ev.unNilL.eq_2 <| And.intro @unNil1_def <| And.intro @filled_agg_iff <| And.intro @fillNil_nil <| And.intro @fillNil_nilS <| And.intro @fillNil_int <| And.intro @fillNil_str <| And.intro @fillNil_bool <| And.intro @fillNil_sl <| And.intro @fillNil_rs <| And.intro @mv_aggl <| And.intro @mv2_aggl <| And.intro @mvL_nil <| And.intro @mvL_cons <| And.intro @mv1_int <| And.intro @mv1_bool <| And.intro @mv1_str <| And.intro @mv1_sl <| And.intro @mv1_nilS <| And.intro @mv1_rs <| And.intro @mv2_rsr <| And.intro @mv_rsr <| And.intro @snap_aggl <| And.intro @snapL_nil <| And.intro @snapL_cons <| And.intro @snap1_int <| And.intro @snap1_bool <| And.intro @snap1_str <| And.intro @snap1_sl <| And.intro @snap1_nilS <| And.intro @snap1_rs <| And.intro @frz_aggl <| And.intro @frzL_nil <| And.intro @frzL_cons <| And.intro @frz1_int <| And.intro @frz1_sl <| And.intro @frz1_str <| And.intro @frz1_nilS <| And.intro @frz1_rs <| And.intro @Go.Ev.fillParts.eq_1 <| And.intro @Go.Ev.fillParts.eq_2 <| And.intro @Go.Ev.splice.eq_1 <| And.intro @List.all_cons.{0} <| And.intro @List.all_nil.{0} <| And.intro @List.take_zero.{0} <| And.intro @List.drop_zero.{0} <| And.intro @List.take_succ_cons.{0} <| And.intro @List.drop_succ_cons.{0} <| And.intro @List.drop_nil.{0} <| And.intro @List.take_nil.{0} <| And.intro @List.nil_append.{0} <| And.intro @List.cons_append.{0} <| And.intro @List.map_cons.{0, 0} <| @List.map_nil.{0, 0}
abbrev SCx := And.intro @cast_add <| And.intro @cast_mul <| And.intro @cast_mul60 <| And.intro @cast_tmod60 <| And.intro @cast_tdiv60 <| And.intro @cast_tmod <| And.intro @cast_tdiv <| And.intro @wr_nat <| And.intro @cast_add1 <| @Nat.lt_irrefl
end Go.Proofs.YtpocekfifokndaaDoor
