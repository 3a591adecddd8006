/- The operations of LS. -/
import Derived.Test.YthiilhepneddpaaLsVal
namespace Go.LS

inductive LX where
  | tmp (t : Nat)
  | const (v : LV)
  deriving Inhabited

inductive Cv where
  | int (k : IntKind)
  | str
  | s2b
  | b2s
  deriving Inhabited

/-- A map's kind of keys. -/
inductive KK where
  | int
  | str
  | bool
  deriving Inhabited
def KK.fits : KK → PV → Bool
  | .int, .int _ _ => true
  | .str, .str _ => true
  | .bool, .bool _ => true
  | _, _ => false

/-- What may be compared with nil. -/
inductive NK where
  | slice
  | map
  | func
  | iface
  deriving Inhabited

/-- Is it nil? Of an empty slice that is not known. -/
def LV.nilq (neg : Bool) (k : NK) (v : LV) : Option LV :=
  match k, v with
  | .slice, .p (.sl []) => some .anyb
  | .slice, .p (.sl (_ :: _)) => some (.p (.bool neg))
  | .slice, .tight [] => some .anyb
  | .slice, .tight (_ :: _) => some (.p (.bool neg))
  | .slice, .sl _ _ _ => some (.p (.bool neg))
  | .slice, .rs _ _ _ => some (.p (.bool neg))
  | .map, .p .nilm => some (.p (.bool !neg))
  | .map, .mp _ => some (.p (.bool neg))
  | .func, .p .nilf => some (.p (.bool !neg))
  | .func, .fn _ _ _ => some (.p (.bool neg))
  | .iface, .p .nili => some (.p (.bool !neg))
  | .iface, .p (.ifc _ _) => some (.p (.bool neg))
  | .iface, .ifc _ _ => some (.p (.bool neg))
  | _, _ => none

/-- An operation, with all that the types say of it. -/
inductive LOp where
  | mv (x : LX)
  | pick (c a b : LX)
  | alloc (z : List LV)
  | box (x : LX)
  | build (z : List LV) (parts : List (Nat × Nat × LX))
  | mkrow (r : Bool) (size len : Nat) (z : List LV) (parts : List (Nat × LX))
  | load (agg : Bool) (n : Nat) (x : LX)
  | store (n : Nat) (x v : LX)
  | nilChk (x : LX)
  | bin (op : BinOp) (x y : LX)
  | beq (neg : Bool) (x y : LX)
  | peq (neg : Bool) (x y : LX)
  | nileq (neg : Bool) (k : NK) (x : LX)
  | un (op : UnOp) (x : LX)
  | cv (k : Cv) (x : LX)
  | fn (f : FuncId) (captured : List LX)
  | iface (t : TypeId) (x : LX)
  | mkmap
  | mkslice (size bytes : Nat) (z : List LV) (len cap : LX)
  | sslice (x : LX) (lo hi mx : Option LX)
  | slice (size : Nat) (x : LX) (lo hi mx : Option LX)
  | fieldAddr (off : Nat) (x : LX)
  | field (agg : Bool) (off n : Nat) (x : LX)
  | indexAddr (size : Nat) (x i : LX)
  | arrAddr (len size : Nat) (x i : LX)
  | index (x i : LX)
  | arrIndex (agg : Bool) (len size : Nat) (x i : LX)
  | lookup (kk : KK) (z : LV) (ok : Bool) (x i : LX)
  | mapUpdate (kk : KK) (m k v : LX)
  | delete (kk : KK) (m k : LX)
  | range (x : LX)
  | next (x : LX)
  | extract (x : LX) (i : Nat)
  | call (f : FuncId) (args : List LX)
  | callv (f : LX) (args : List LX)
  | append (str : Bool) (size bytes : Nat) (s x : LX)
  | grow (size bytes : Nat) (s x : LX)
  | len (x : LX)
  | slen (x : LX)
  | mlen (x : LX)
  | const (v : LV)
  | cap (x : LX)
  | mx (x y : LX)
  | mn (x y : LX)
  | retire (x : LX)
  | seq (neg : Bool) (offs : List (Nat × KK)) (x y : LX)
  | fail
  deriving Inhabited

def LX.ev (t : List LV) : LX → LV
  | .tmp i => t.getD i .und
  | .const v => v

def bs (l : List UInt8) : List (List PV) := l.map fun b => [.int .u8 b.toNat]
def unb : List PV → Option UInt8
  | [.int .u8 n] => some (UInt8.ofNat n.toNat)
  | _ => none
def unbs : List (List PV) → Option (List UInt8)
  | [] => some []
  | e :: r => match unb e, unbs r with
    | some b, some l => some (b :: l)
    | _, _ => none

/-- The cells that a value takes in memory. -/
def LV.cells? : LV → Option (List LV)
  | .agg cs => some cs
  | .und | .anyb | .tup _ | .gr _ _ => none
  | v => some [v]

def LV.toPV : LV → Option PV
  | .p v => some v
  | .sl es _ _ => some (.sl es)
  | .tight es => some (.sl es)
  | .ifc t v => match v.toPV with | some q => some (.ifc t q) | none => none
  | _ => none

def toPVs : List LV → Option (List PV)
  | [] => some []
  | v :: r => match v.toPV, toPVs r with
    | some p, some l => some (p :: l)
    | _, _ => none

def LV.asSl : LV → Option (List (List PV))
  | .p (.sl es) => some es
  | .sl es _ _ => some es
  | .tight es => some es
  | _ => none

def LV.asInt : LV → Option Int
  | .p (.int _ n) => some n
  | _ => none

/-- A value out of cells: a struct's, or the one cell's. -/
def ofCells (agg : Bool) (cs : List LV) : Option LV :=
  if agg then some (.agg cs) else match cs with
    | [v] => some v
    | _ => none

def ibin (op : BinOp) (k : IntKind) (a b : Int) : Option PV :=
  match op with
  | .add => some (.int k (k.wrap (a + b)))
  | .sub => some (.int k (k.wrap (a - b)))
  | .mul => some (.int k (k.wrap (a * b)))
  | .quo => if b = 0 then none else some (.int k (k.wrap (a.tdiv b)))
  | .rem => if b = 0 then none else some (.int k (a.tmod b))
  | .and => some (.int k (k.wrap (BitVec.ofInt k.bits a &&& BitVec.ofInt k.bits b).toNat))
  | .or => some (.int k (k.wrap (BitVec.ofInt k.bits a ||| BitVec.ofInt k.bits b).toNat))
  | .xor => some (.int k (k.wrap (BitVec.ofInt k.bits a ^^^ BitVec.ofInt k.bits b).toNat))
  | .andNot => some (.int k (k.wrap (BitVec.ofInt k.bits a &&& ~~~ BitVec.ofInt k.bits b).toNat))
  | .eql => some (.bool (a == b))
  | .neq => some (.bool (a != b))
  | .lss => some (.bool (a < b))
  | .leq => some (.bool (a ≤ b))
  | .gtr => some (.bool (a > b))
  | .geq => some (.bool (a ≥ b))
  | _ => none

def sbin (op : BinOp) (a b : List UInt8) : Option PV :=
  match op with
  | .add => if a.length + b.length ≤ 9223372036854775807 then some (.str (a ++ b)) else none
  | .eql => some (.bool (a == b))
  | .neq => some (.bool (!(a == b)))
  | .lss => some (.bool (Op.bytesLess a b))
  | .leq => some (.bool (Op.bytesLess a b || a == b))
  | .gtr => some (.bool (!(Op.bytesLess a b || a == b)))
  | .geq => some (.bool (!(Op.bytesLess a b)))
  | _ => none

/-- Pointers against nil. -/
def LV.isNilPtr : LV → Option Bool
  | .p .nilp => some true
  | .ptr _ _ _ => some false
  | .pin _ _ => some false
  | _ => none

def nilbin (neg : Bool) (x y : LV) : Option PV :=
  match x.isNilPtr, y.isNilPtr with
  | some a, some true => some (.bool (a != neg))
  | some true, some b => some (.bool (b != neg))
  | _, _ => none

def lbin (op : BinOp) (x y : LV) : Option PV :=
  match x, y with
  | .p (.int k a), .p (.int j b) =>
    match op with
    | .shl => if b < 0 then none else some (.int k (k.wrap (a * 2 ^ (min b.toNat k.bits))))
    | .shr => if b < 0 then none else some (.int k (a.fdiv (2 ^ (min b.toNat k.bits))))
    | _ => if k = j then ibin op k a b else none
  | .p (.str a), .p (.str b) => sbin op a b
  | _, _ => none

def boolbin (neg : Bool) (x y : LV) : Option PV :=
  match x, y with
  | .p (.bool a), .p (.bool b) => some (.bool ((a == b) != neg))
  | _, _ => none

def lun (op : UnOp) (x : LV) : Option PV :=
  match op, x with
  | .neg, .p (.int k n) => some (.int k (k.wrap (0 - n)))
  | .xor, .p (.int k n) => some (.int k (k.wrap (BitVec.ofInt k.bits (if k.signed then -1 else k.max) ^^^ BitVec.ofInt k.bits n).toNat))
  | .not, .p (.bool b) => some (.bool (!b))
  | _, _ => none

def lcv (k : Cv) (x : LV) : Option PV :=
  match k, x with
  | .int k, .p (.int _ n) => some (.int k (k.wrap n))
  | .str, .p (.str s) => some (.str s)
  | .s2b, .p (.str s) => if s.length ≤ 140737488355328 then some (.sl (bs s)) else none
  | .b2s, x => match x.asSl with
    | some es => match unbs es with
      | some l => some (.str l)
      | none => none
    | none => none
  | _, _ => none

/-- A bound of a slice expression: from 0 to y. -/
def bnd (y : Nat) : Option LV → Nat → Option Nat
  | none, d => some d
  | some (.p (.int _ n)), _ => if 0 ≤ n ∧ n ≤ y then some n.toNat else none
  | some _, _ => none

def lslice (x : LV) (lo hi mx : Option LV) : Option LV :=
  match x with
  | .p (.str s) => if mx.isSome then none else
    match bnd s.length hi s.length with
    | some h => match bnd h lo 0 with
      | some l => some (.p (.str ((s.take h).drop l)))
      | none => none
    | none => none
  | x => if mx.isSome ∧ hi.isNone then none else match x.asSl with
    | none => none
    | some es => match bnd es.length mx es.length with
      | none => none
      | some m => match bnd m hi es.length with
        | none => none
        | some h => match bnd h lo 0 with
          | none => none
          | some l =>
            if mx.isSome ∧ h = m then some (.tight ((es.take h).drop l))
            else if mx.isNone ∧ h = es.length ∧ l < es.length then
              (match x with
               | .sl es t fin => some (.sl (es.drop l) t fin)
               | .tight es => some (.tight (es.drop l))
               | _ => some (.p (.sl (es.drop l))))
            else some (.p (.sl ((es.take h).drop l)))

/-- A slice of a slice over an object's elements. -/
def rslice (size : Nat) (st : List LObj) (x : LV) (lo hi mx : Option LV) : Option LV :=
  match x with
  | .rs o off len => if mx.isSome then none else
    match bnd len hi len with
    | some h => match bnd h lo 0 with
      | some l => if l < len then
          match st[o]? with
          | some (.row es) => match es[off]? with
            | some e => if e.length = size then some (.rs o (off + l) (h - l)) else none
            | none => none
          | _ => none
        else none
      | none => none
    | none => none
  | .gr tg n => if lo.isSome ∨ mx.isSome then none else match bnd n hi n with
    | some 0 => some (.sl [] tg 0)
    | _ => none
  | .tight [] => if lo.isSome ∨ mx.isSome then lslice (.tight []) lo hi mx else match bnd 0 hi 0 with
    | some _ => some (.tight [])
    | none => none
  | x => match x.asSl with
    | some es => if es.all (fun e => e.length == size) then lslice x lo hi mx else none
    | none => none

def setParts (z : List LV) : List (Nat × Nat × List LV) → Option (List LV)
  | [] => some z
  | (off, n, cs) :: r => if cs.length = n ∧ off + n ≤ z.length then setParts (z.take off ++ cs ++ z.drop (off + n)) r else none

def evParts (t : List LV) : List (Nat × Nat × LX) → Option (List (Nat × Nat × List LV))
  | [] => some []
  | (off, n, x) :: r => match (x.ev t).cells?, evParts t r with
    | some cs, some l => some ((off, n, cs) :: l)
    | _, _ => none

/-- The elements of a literal. -/
def litRow (size : Nat) : List (List LV) → List (Nat × List LV) → Option (List (List LV))
  | es, [] => some es
  | es, (i, cs) :: r => if cs.length = size ∧ i < es.length then litRow size (es.set i cs) r else none

def evRow (t : List LV) : List (Nat × LX) → Option (List (Nat × List LV))
  | [] => some []
  | (i, x) :: r => match (x.ev t).cells?, evRow t r with
    | some cs, some l => some ((i, cs) :: l)
    | _, _ => none

def rowPV : List (List LV) → Option (List (List PV))
  | [] => some []
  | e :: r => match toPVs e, rowPV r with
    | some p, some l => some (p :: l)
    | _, _ => none

def LV.ldAt (st : List LObj) (n : Nat) : LV → Option (List LV)
  | .ptr o i off => match st[o]? with
    | some (.row es) => match es[i]? with
      | some e => if off + n ≤ e.length then some ((e.drop off).take n) else none
      | none => none
    | _ => none
  | .pin cells off => if off + n ≤ cells.length then some (((cells.drop off).take n).map .p) else none
  | _ => none

def LV.stAt (st : List LObj) (cs : List LV) : LV → Option (List LObj)
  | .ptr o i off => match st[o]? with
    | some (.row es) => match es[i]? with
      | some e => if off + cs.length ≤ e.length then some (st.set o (.row (es.set i (e.take off ++ cs ++ e.drop (off + cs.length))))) else none
      | none => none
    | _ => none
  | _ => none

def pvEq : PV → PV → Option Bool
  | .int k a, .int j b => if k = j then some (a == b) else none
  | .str a, .str b => some (a == b)
  | .bool a, .bool b => some (a == b)
  | _, _ => none

/-- Structs' cells, one by one. -/
def eqCells (xs ys : List LV) : List (Nat × KK) → Option Bool
  | [] => some true
  | (o, kk) :: r => match xs[o]?, ys[o]? with
    | some (.p a), some (.p b) => if kk.fits a then
        match pvEq a b, eqCells xs ys r with
        | some p, some q => some (p && q)
        | _, _ => none
      else none
    | _, _ => none

def mfind (k : PV) : List (PV × LV) → Option (Option LV)
  | [] => some none
  | (j, v) :: r => match pvEq k j with
    | some true => some (some v)
    | some false => mfind k r
    | none => none

def mset (k : PV) (v : LV) : List (PV × LV) → Option (List (PV × LV))
  | [] => some [(k, v)]
  | (j, u) :: r => match pvEq k j with
    | some true => some ((k, v) :: r)
    | some false => match mset k v r with
      | some l => some ((j, u) :: l)
      | none => none
    | none => none

def mdel (k : PV) : List (PV × LV) → Option (List (PV × LV))
  | [] => some []
  | (j, u) :: r => match pvEq k j with
    | some true => some r
    | some false => match mdel k r with
      | some l => some ((j, u) :: l)
      | none => none
    | none => none

/-- What a map holds at a key. -/
def mlook (st : List LObj) (k : PV) : LV → Option (Option LV)
  | .p .nilm => some none
  | .mp o => (match st[o]? with
    | some (.map kv) => mfind k kv
    | _ => none)
  | _ => none

/-- What is appended. -/
def appended (str : Bool) (st : List LObj) (x : LV) : Option (List (List PV)) :=
  match x with
  | .p (.str s) => if str then some (bs s) else none
  | .rs o off len => match st[o]? with
    | some (.row es) => if off + len ≤ es.length then rowPV ((es.drop off).take len) else none
    | _ => none
  | x => x.asSl

def sized (n : Nat) (es : List (List PV)) : Bool := es.all fun e => e.length == n

def lappend (str : Bool) (size bytes : Nat) (st : List LObj) (s x : LV) : Option (LV × List LObj) :=
  match appended str st x with
  | none => none
  | some xs => if !sized size xs then none else
    match s with
    | .tight es =>
      if xs.isEmpty then some (s, st)
      else if sized size es ∧ (es.length + xs.length) * bytes ≤ 140737488355328 ∧ es.length + xs.length ≤ maxLen ∧ 0 < size then
        some (.sl (es ++ xs) st.length (es.length + xs.length), st ++ [.spare size (es.length + xs.length)])
      else none
    | .sl es t fin =>
      match st[t]? with
      | some (.spare n hw) =>
        if xs.isEmpty then some (s, st)
        else if n = size ∧ hw = fin ∧ (es.length + xs.length) * bytes ≤ 140737488355328 ∧ es.length + xs.length ≤ maxLen ∧ 0 < size then
          some (.sl (es ++ xs) t (fin + xs.length), st.set t (.spare size (fin + xs.length)))
        else none
      | _ => none
    | _ => none

abbrev CallF := FuncId → List LV → List LObj → Option (LV × List LObj)

/-! The objects that a call may meet, and the call over them alone. -/
def LObj.refs : LObj → List Nat
  | .row es => es.flatMap fun e => e.flatMap LV.refs
  | .map kv => kv.flatMap fun x => x.2.refs
  | _ => []
def LObj.ren (r : Nat → Nat) : LObj → LObj
  | .row es => .row (es.map fun e => e.map (LV.ren r))
  | .map kv => .map (kv.map fun x => (x.1, x.2.ren r))
  | o => o

/-- All that is reached, in the order in which it is met. -/
def reach (st : List LObj) : Nat → List Nat → List Nat → List Nat
  | 0, _, acc => acc
  | _ + 1, [], acc => acc
  | n + 1, o :: todo, acc => if acc.contains o then reach st n todo acc else reach st n (((st[o]?).getD .dead).refs ++ todo) (acc ++ [o])

/-- Is all that is reached listed? -/
def closed (st : List LObj) (ids : List Nat) : Bool := ids.all fun o => decide (o < st.length) && ((st[o]?).getD .dead).refs.all fun q => ids.contains q

def sub (st : List LObj) (ids : List Nat) : List LObj := ids.map fun o => ((st[o]?).getD .dead).ren fun q => ids.idxOf q

def back (ids : List Nat) (n : Nat) (j : Nat) : Nat := if h : j < ids.length then ids[j] else n + (j - ids.length)

def putBack (st : List LObj) : List Nat → List LObj → List LObj
  | o :: ids, x :: r => putBack (st.set o x) ids r
  | _, _ => st

def callIso (call : CallF) (f : FuncId) (args : List LV) (st : List LObj) : Option (LV × List LObj) :=
  let ids := reach st 100000 (args.flatMap LV.refs) []
  if closed st ids && (args.flatMap LV.refs).all (ids.contains ·) && decide ids.Nodup then
    match call f (args.map (LV.ren fun q => ids.idxOf q)) (sub st ids) with
    | some (r, st') =>
      if ids.length ≤ st'.length then
        let b := back ids st.length
        some (r.ren b, putBack st ids ((st'.take ids.length).map (LObj.ren b)) ++ (st'.drop ids.length).map (LObj.ren b))
      else none
    | none => none
  else none

def opStep (call : CallF) (t : List LV) (st : List LObj) : LOp → Option (LV × List LObj)
  | .fail => none
  | .seq neg offs x y => match x.ev t, y.ev t with
    | .agg xs, .agg ys => match eqCells xs ys offs with
      | some b => some (.p (.bool (b != neg)), st)
      | none => none
    | _, _ => none
  | .retire x => match x.ev t with
    | .rs o off len => match st[o]? with
      | some (.row es) => if off + len ≤ es.length then
          match rowPV ((es.drop off).take len) with
          | some qs => some (.p (.sl qs), st.set o .dead)
          | none => none
        else none
      | _ => none
    | _ => none
  | .mv x => some (x.ev t, st)
  | .const v => some (v, st)
  | .pick c a b => match c.ev t with
    | .p (.bool c) => some (if c then a.ev t else b.ev t, st)
    | _ => none
  | .alloc z => some (.ptr st.length 0 0, st ++ [.row [z]])
  | .box x => match (x.ev t).cells? with
    | some cs => some (.ptr st.length 0 0, st ++ [.row [cs]])
    | none => none
  | .build z parts => match evParts t parts with
    | some ps => match setParts z ps with
      | some cs => some (.agg cs, st)
      | none => none
    | none => none
  | .mkrow r size len z parts => match evRow t parts with
    | none => none
    | some ps => match litRow size (List.replicate len z) ps with
      | none => none
      | some es => if r then some (.rs st.length 0 len, st ++ [.row es]) else
        match rowPV es with
        | some qs => some (.tight qs, st)
        | none => some (.rs st.length 0 len, st ++ [.row es])
  | .load agg n x => match (x.ev t).ldAt st n with
    | some cs => match ofCells agg cs with
      | some v => some (v, st)
      | none => none
    | none => none
  | .store n x v => match (v.ev t).cells? with
    | some cs => if cs.length = n then
        match (x.ev t).stAt st cs with
        | some st' => some (.tup [], st')
        | none => none
      else none
    | none => none
  | .nilChk x => match x.ev t with
    | .ptr o i off => some (.ptr o i off, st)
    | .pin cells off => some (.pin cells off, st)
    | .fn (.func f) first captured => some (.fn (.func f) first captured, st)
    | _ => none
  | .bin op x y => match lbin op (x.ev t) (y.ev t) with
    | some v => some (.p v, st)
    | none => none
  | .beq neg x y => match boolbin neg (x.ev t) (y.ev t) with
    | some v => some (.p v, st)
    | none => none
  | .peq neg x y => match nilbin neg (x.ev t) (y.ev t) with
    | some v => some (.p v, st)
    | none => none
  | .nileq neg k x => match (x.ev t).nilq neg k with
    | some v => some (v, st)
    | none => none
  | .un op x => match lun op (x.ev t) with
    | some v => some (.p v, st)
    | none => none
  | .cv k x => match lcv k (x.ev t) with
    | some v => some (.p v, st)
    | none => none
  | .fn f captured => some (.fn (.func f) [] (captured.map (LX.ev t)), st)
  | .iface ty x => match x.ev t with
    | .und => none
    | .tup _ => none
    | v => some (.ifc ty v, st)
  | .mkmap => some (.mp st.length, st ++ [.map []])
  | .mkslice size bytes z len cap => match (len.ev t).asInt, (cap.ev t).asInt with
    | some l, some c =>
      if 0 ≤ l ∧ l ≤ c ∧ c * bytes ≤ 281474976710656 ∧ c ≤ maxLen ∧ z.length = size ∧ 0 < size then
        if l = 0 ∧ 0 < c then some (.sl [] st.length 0, st ++ [.spare size 0])
        else if l = c then some (.rs st.length 0 l.toNat, st ++ [.row (List.replicate l.toNat z)])
        else none
      else none
    | _, _ => none
  | .sslice x lo hi mx => match x.ev t with
    | .p (.str s) => match lslice (.p (.str s)) (lo.map (LX.ev t)) (hi.map (LX.ev t)) (mx.map (LX.ev t)) with
      | some v => some (v, st)
      | none => none
    | _ => none
  | .slice size x lo hi mx => match rslice size st (x.ev t) (lo.map (LX.ev t)) (hi.map (LX.ev t)) (mx.map (LX.ev t)) with
    | some v => some (v, st)
    | none => none
  | .fieldAddr d x => match x.ev t with
    | .ptr o i off => some (.ptr o i (off + d), st)
    | .pin cells off => some (.pin cells (off + d), st)
    | _ => none
  | .field agg off n x => match x.ev t with
    | .agg cs => if off + n ≤ cs.length then
        match ofCells agg ((cs.drop off).take n) with
        | some v => some (v, st)
        | none => none
      else none
    | _ => none
  | .indexAddr size x i => match (i.ev t).asInt with
    | none => none
    | some i => if i < 0 then none else
      match x.ev t with
      | .rs o off len => if i < len then
          match st[o]? with
          | some (.row es) => match es[off + i.toNat]? with
            | some e => if e.length = size then some (.ptr o (off + i.toNat) 0, st) else none
            | none => none
          | _ => none
        else none
      | x => match x.asSl with
        | some es => match es[i.toNat]? with
          | some e => if e.length = size then some (.pin e 0, st) else none
          | none => none
        | none => none
  | .arrAddr len size x i => match (i.ev t).asInt with
    | none => none
    | some i => if 0 ≤ i ∧ i < len then
        match x.ev t with
        | .ptr o k off => some (.ptr o k (off + i.toNat * size), st)
        | .pin cells off => some (.pin cells (off + i.toNat * size), st)
        | _ => none
      else none
  | .index x i => match x.ev t, (i.ev t).asInt with
    | .p (.str s), some i => if 0 ≤ i then
        match s[i.toNat]? with
        | some b => some (.p (.int .u8 b.toNat), st)
        | none => none
      else none
    | _, _ => none
  | .arrIndex agg len size x i => match x.ev t, (i.ev t).asInt with
    | .agg cs, some i => if 0 ≤ i ∧ i < len ∧ i.toNat * size + size ≤ cs.length then
        match ofCells agg ((cs.drop (i.toNat * size)).take size) with
        | some v => some (v, st)
        | none => none
      else none
    | _, _ => none
  | .lookup kk z ok x i => match (i.ev t).toPV with
    | none => none
    | some k => if kk.fits k then
        match mlook st k (x.ev t) with
        | some (some v) => some (if ok then .tup [v, .p (.bool true)] else v, st)
        | some none => some (if ok then .tup [z, .p (.bool false)] else z, st)
        | none => none
      else none
  | .mapUpdate kk m k v => match m.ev t, (k.ev t).toPV with
    | .mp o, some k => if kk.fits k then
        match st[o]? with
        | some (.map kv) => match mset k (v.ev t) kv with
          | some kv' => some (.tup [], st.set o (.map kv'))
          | none => none
        | _ => none
      else none
    | _, _ => none
  | .delete kk m k => match m.ev t, (k.ev t).toPV with
    | .mp o, some k => if kk.fits k then
        match st[o]? with
        | some (.map kv) => match mdel k kv with
          | some kv' => some (.tup [], st.set o (.map kv'))
          | none => none
        | _ => none
      else none
    | _, _ => none
  | .range x => match x.ev t with
    | .p (.str s) => some (.it st.length, st ++ [.siter s 0])
    | _ => none
  | .next x => match x.ev t with
    | .it o => match st[o]? with
      | some (.siter s pos) =>
        if pos < s.length then
          let r := Utf8.decode ⟨s.toArray⟩ pos
          some (.tup [.p (.bool true), .p (.int .i64 pos), .p (.int .i32 r.1)], st.set o (.siter s (pos + r.2)))
        else some (.tup [.p (.bool false)], st)
      | _ => none
    | _ => none
  | .extract x i => match x.ev t with
    | .tup vs => match vs[i]? with
      | some v => some (v, st)
      | none => none
    | _ => none
  | .call f args => callIso call f (args.map (LX.ev t)) st
  | .callv f args => match f.ev t with
    | .fn (.func g) first captured => callIso call g (first ++ args.map (LX.ev t) ++ captured) st
    | _ => none
  | .append str size bytes s x => lappend str size bytes st (s.ev t) (x.ev t)
  | .grow size bytes s x => match s.ev t, x.ev t with
    | .tight [], .p (.int .i64 n) => if n = 0 then some (.tight [], st)
      else if 0 < n ∧ n.toNat * bytes ≤ 140737488355328 ∧ n ≤ 9223372036854775807 then some (.gr st.length n.toNat, st ++ [.spare size 0]) else none
    | _, _ => none
  | .slen x => match x.ev t with
    | .p (.str s) => some (.p (.int .i64 s.length), st)
    | _ => none
  | .mlen x => match x.ev t with
    | .p .nilm => some (.p (.int .i64 0), st)
    | .mp o => match st[o]? with
      | some (.map kv) => some (.p (.int .i64 kv.length), st)
      | _ => none
    | _ => none
  | .len x => match x.ev t with
    | .rs _ _ len => some (.p (.int .i64 len), st)
    | x => match x.asSl with
      | some es => some (.p (.int .i64 es.length), st)
      | none => none
  | .cap x => match x.ev t with
    | .tight es => some (.p (.int .i64 es.length), st)
    | _ => none
  | .mx x y => match x.ev t, y.ev t with
    | .p (.int k a), .p (.int _ b) => some (.p (.int k (if b > a then b else a)), st)
    | _, _ => none
  | .mn x y => match x.ev t, y.ev t with
    | .p (.int k a), .p (.int _ b) => some (.p (.int k (if b < a then b else a)), st)
    | _, _ => none

end Go.LS
