/- A loaded function, made ready for LS. -/
import Derived.Test.YthiilhepneddpaaLsExec
namespace Go.LS

def constCell : Value → Option LV
  | .bool b => some (.p (.bool b))
  | .int k n => some (.p (.int k n))
  | .string s => some (.p (.str s.data.toList))
  | .pointer none => some (.p .nilp)
  | .slice none 0 0 => some (.tight [])
  | .map none => some (.p .nilm)
  | .nilFunc => some (.p .nilf)
  | .nilIface => some (.p .nili)
  | _ => none

def constCells : List Value → Option (List LV)
  | [] => some []
  | v :: r => match constCell v, constCells r with
    | some x, some l => some (x :: l)
    | _, _ => none

def constLV : Value → Option LV
  | .agg cs => match constCells cs.toList with
    | some l => some (.agg l)
    | none => none
  | v => constCell v

def compX : Operand → Option LX
  | .tmp t => some (.tmp t)
  | .const v => match constLV v with
    | some x => some (.const x)
    | none => none
  | .func f => some (.const (.fn (.func f) [] []))
  | .global _ => none

def compXs : List Operand → Option (List LX)
  | [] => some []
  | x :: r => match compX x, compXs r with
    | some y, some l => some (y :: l)
    | _, _ => none

def compO : Option Operand → Option (Option LX)
  | none => some none
  | some x => match compX x with
    | some y => some (some y)
    | none => none

def aggB : TypeDesc → Bool
  | .struct _ | .array _ _ => true
  | _ => false

/-- Is it a struct or an array? How many cells? -/
def tyOf (P : Program) (t : TypeId) : Option (Bool × Nat) :=
  match P.underlying t, P.info? t with
  | some d, some i => some (aggB d, i.size)
  | _, _ => none

def zeroOf (P : Program) (t : TypeId) : Option (List LV) :=
  match P.info? t with
  | some i => match i.zero with
    | some z => constCells z.cells.toList
    | none => none
  | none => none

def compFields (P : Program) (fs : Array Field) : List (Nat × Operand) → Option (List (Nat × Nat × LX))
  | [] => some []
  | (i, x) :: r => match fs[i]?, compX x, compFields P fs r with
    | some f, some y, some l => match P.info? f.type with
      | some info => some ((f.offset, info.size, y) :: l)
      | none => none
    | _, _, _ => none

def compElems (size : Nat) : List (Nat × Operand) → Option (List (Nat × Nat × LX))
  | [] => some []
  | (i, x) :: r => match compX x, compElems size r with
    | some y, some l => some ((i * size, size, y) :: l)
    | _, _ => none

def compParts : List (Nat × Operand) → Option (List (Nat × LX))
  | [] => some []
  | (i, x) :: r => match compX x, compParts r with
    | some y, some l => some ((i, y) :: l)
    | _, _ => none

def allInfo (P : Program) (fs : Array Field) : Bool := fs.toList.all fun f => (P.info? f.type).isSome

def keyOk (P : Program) (t : TypeId) : Option KK :=
  match P.underlying t with
  | some (.int _) => some .int
  | some .string => some .str
  | some .bool => some .bool
  | _ => none

/-- A function with a body, called by its number. -/
def plainFn (P : Program) (f : FuncId) : Bool :=
  match P.funcs[f]? with
  | some fn => !(fn.name == "runtime.NumGoroutine") && fn.body.isSome
  | none => false

def compCall (P : Program) (c : Call) : Option LOp :=
  match c.callee with
  | .value (.func f) => if plainFn P f then
      match compXs c.args.toList with
      | some xs => some (.call f xs)
      | none => none
    else none
  | .value (.tmp t) => match compXs c.args.toList with
    | some xs => some (.callv (.tmp t) xs)
    | none => none
  | .value _ => none
  | .invoke _ _ => none
  | .builtin b => match b, c.argTypes.toList, c.args.toList with
    | .append, [t, u], [s, x] => match P.underlying t, P.underlying u, compX s, compX x with
      | some (.slice e), some d, some s', some x' => match P.info? e, d with
        | some i, .slice _ => match i.zero with
          | some z => if z.cells.size = i.size then some (.append false i.size i.bytes s' x') else none
          | none => none
        | some i, .string => match i.zero with
          | some z => if z.cells.size = i.size ∧ i.size = 1 ∧ i.bytes = 1 then some (.append true i.size i.bytes s' x') else none
          | none => none
        | some i, .int .i64 => match i.zero with
          | some z => if z.cells.size = i.size ∧ 0 < i.size then some (.grow i.size i.bytes s' x') else none
          | none => none
        | _, _ => none
      | _, _, _, _ => none
    | .len, [t], [x] => match P.underlying t, compX x with
      | some (.array n _), _ => some (.const (.p (.int .i64 n)))
      | some .string, some x' => some (.slen x')
      | some (.slice _), some x' => some (.len x')
      | some (.map _ _), some x' => some (.mlen x')
      | _, _ => none
    | .cap, [t], [x] => match P.underlying t, compX x with
      | some (.slice _), some x' => some (.cap x')
      | _, _ => none
    | .max, _, [x, y] => match compX x, compX y with
      | some x', some y' => some (.mx x' y')
      | _, _ => none
    | .min, _, [x, y] => match compX x, compX y with
      | some x', some y' => some (.mn x' y')
      | _, _ => none
    | .delete, [t, _], [m, k] => match P.underlying t, compX m, compX k with
      | some (.map kt _), some m', some k' => match keyOk P kt with
        | some kk => some (.delete kk m' k')
        | none => none
      | _, _, _ => none
    | _, _, _ => none

/-- Structs that are compared cell by cell: where, and of what kind. -/
def eqFs (P : Program) : List Field → Option (List (Nat × KK))
  | [] => some []
  | f :: r => match keyOk P f.type, eqFs P r with
    | some kk, some l => if f.name == "_" then none else some ((f.offset, kk) :: l)
    | _, _ => none

def flatEq (P : Program) (t : TypeId) (fs : Array Field) : Option (List (Nat × KK)) :=
  if (P.eqGuardType P.depth t == false) && (P.stoodInHeld t == false) then eqFs P fs.toList else none

/-- Something against the literal nil. -/
def compNil (P : Program) (op : BinOp) (t : TypeId) (x y : Operand) : Option LOp :=
  match op, compX x with
  | .eql, some x' => match P.underlying t, y with
    | some (.slice _), .const (.slice none 0 0) => some (.nileq false .slice x')
    | some (.map _ _), .const (.map none) => some (.nileq false .map x')
    | some (.func _ _ _), .const .nilFunc => some (.nileq false .func x')
    | some (.interface _), .const .nilIface => some (.nileq false .iface x')
    | _, _ => none
  | .neq, some x' => match P.underlying t, y with
    | some (.slice _), .const (.slice none 0 0) => some (.nileq true .slice x')
    | some (.map _ _), .const (.map none) => some (.nileq true .map x')
    | some (.func _ _ _), .const .nilFunc => some (.nileq true .func x')
    | some (.interface _), .const .nilIface => some (.nileq true .iface x')
    | _, _ => none
  | _, _ => none

/-- One operation; 'r': is a literal's memory to be an object? -/
def compOp0 (P : Program) (r : Bool) (op : Op) : Option LOp :=
  match op with
  | .move x | .assign x => match compX x with
    | some y => some (.mv y)
    | none => none
  | .pick c a b => match compX c, compX a, compX b with
    | some c, some a, some b => some (.pick c a b)
    | _, _, _ => none
  | .alloc e => match zeroOf P e with
    | some z => some (.alloc z)
    | none => none
  | .box _ x => match compX x with
    | some y => some (.box y)
    | none => none
  | .build t parts => match P.underlying t, zeroOf P t with
    | some (.struct fs), some z => if allInfo P fs then
        match compFields P fs parts.toList with
        | some ps => some (.build z ps)
        | none => none
      else none
    | some (.array _ e), some z => match P.info? e with
      | some i => match compElems i.size parts.toList with
        | some ps => some (.build z ps)
        | none => none
      | none => none
    | _, _ => none
  | .buildSlice t len parts => match P.underlying t with
    | some (.slice e) => match P.info? e, zeroOf P e, compParts parts.toList with
      | some i, some z, some ps => if 0 < i.size ∧ len * i.size ≤ 16777216 ∧ z.length = i.size then some (.mkrow r i.size len z ps) else none
      | _, _, _ => none
    | _ => none
  | .load t a => match tyOf P t, compX a with
    | some (agg, n), some x => if agg = true ∨ n = 1 then some (.load agg n x) else none
    | _, _ => none
  | .store t a v => match tyOf P t, compX a, compX v with
    | some (_, n), some x, some y => some (.store n x y)
    | _, _, _ => none
  | .nilCheck x => match compX x with
    | some y => some (.nilChk y)
    | none => none
  | .binOp op t x y _ => match P.underlying t, compX x, compX y with
    | some (.int _), some x, some y => some (.bin op x y)
    | some .string, some x, some y => some (.bin op x y)
    | some .bool, some x, some y => match op with
      | .eql => some (.beq false x y)
      | .neq => some (.beq true x y)
      | _ => none
    | some (.pointer _), some x, some y => match op with
      | .eql => some (.peq false x y)
      | .neq => some (.peq true x y)
      | _ => none
    | some (.struct fs), some x, some y => match flatEq P t fs with
      | some l => match op with
        | .eql => some (.seq false l x y)
        | .neq => some (.seq true l x y)
        | _ => none
      | none => none
    | _, _, _ => compNil P op t x y
  | .unOp op _ x => match compX x with
    | some y => some (.un op y)
    | none => none
  | .convert src dst x => match P.underlying src, P.underlying dst, compX x with
    | some (.int _), some (.int k), some y => some (.cv (.int k) y)
    | some .string, some .string, some y => some (.cv .str y)
    | some .string, some (.slice e), some y => match P.underlying e with
      | some (.int .u8) => if (P.info? e).isSome then some (.cv .s2b y) else none
      | _ => none
    | some (.slice e), some .string, some y => match P.underlying e with
      | some (.int .u8) => some (.cv .b2s y)
      | _ => none
    | some (.slice _), some (.slice e), some y => if src == dst then
        match P.underlying e with
        | some (.int .u8) => some (.retire y)
        | _ => none
      else none
    | _, _, _ => none
  | .makeFunc (.func f) first captured => if first.size = 0 then
      match compXs captured.toList with
      | some cs => some (.fn f cs)
      | none => none
    else none
  | .makeInterface t x => match P.underlying t, compX x with
    | some (.interface _), _ => none
    | some _, some y => some (.iface t y)
    | _, _ => none
  | .makeMap _ none => some .mkmap
  | .makeSlice t l c => match P.underlying t, compX l, compX c with
    | some (.slice e), some l, some c => match P.info? e, zeroOf P e with
      | some i, some z => some (.mkslice i.size i.bytes z l c)
      | _, _ => none
    | _, _, _ => none
  | .slice t x lo hi mx => match P.underlying t, compX x, compO lo, compO hi, compO mx with
    | some .string, some x, some lo, some hi, some mx => some (.sslice x lo hi mx)
    | some (.slice e), some x, some lo, some hi, some mx => match P.info? e with
      | some inf => some (.slice inf.size x lo hi mx)
      | none => none
    | _, _, _, _, _ => none
  | .fieldAddr s x f => match P.underlying s, compX x with
    | some (.struct fs), some y => match fs[f]? with
      | some fd => match P.info? fd.type with
        | some i => if i.size = 0 then none else some (.fieldAddr fd.offset y)
        | none => none
      | none => none
    | _, _ => none
  | .field t x f => match P.underlying t, compX x with
    | some (.struct fs), some y => match fs[f]? with
      | some fd => match tyOf P fd.type with
        | some (agg, n) => if agg = true ∨ n = 1 then some (.field agg fd.offset n y) else none
        | none => none
      | none => none
    | _, _ => none
  | .indexAddr t x i => match P.underlying t, compX x, compX i with
    | some (.slice e), some x, some i => match P.info? e with
      | some inf => if 0 < inf.size then some (.indexAddr inf.size x i) else none
      | none => none
    | some (.array n e), some x, some i => match P.info? e with
      | some inf => if 0 < inf.size then some (.arrAddr n inf.size x i) else none
      | none => none
    | _, _, _ => none
  | .index t x i => match P.underlying t, compX x, compX i with
    | some .string, some x, some i => some (.index x i)
    | some (.array n e), some x, some i => match tyOf P e with
      | some (agg, s) => if agg = true ∨ s = 1 then some (.arrIndex agg n s x i) else none
      | none => none
    | _, _, _ => none
  | .lookup t x i ok => match P.underlying t, compX x, compX i with
    | some (.map k e), some x, some i => match P.info? e with
      | some inf => match inf.zero with
        | some z => match constLV z with
          | some zv => (match keyOk P k with
          | some kk => some (.lookup kk zv ok x i)
          | none => none)
          | none => none
        | none => none
      | none => none
    | _, _, _ => none
  | .mapUpdate t m k v | .insert t m k v => match P.underlying t, compX m, compX k, compX v with
    | some (.map kt _), some m, some k, some v => match keyOk P kt with
      | some kk => some (.mapUpdate kk m k v)
      | none => none
    | _, _, _, _ => none
  | .range t x => match P.underlying t, compX x with
    | some .string, some y => some (.range y)
    | _, _ => none
  | .next x true => match compX x with
    | some y => some (.next y)
    | none => none
  | .extract x i => match compX x with
    | some y => some (.extract y i)
    | none => none
  | .call c => compCall P c
  | _ => none

/-- The same; what does not go fails where it is met. -/
def compOp (P : Program) (r : Bool) (op : Op) : Option LOp :=
  match compOp0 P r op with
  | some l => some l
  | none => some .fail

end Go.LS
