/- Running LS: regions, loops, calls. -/
import Derived.Test.YthiilhepneddpaaLsOp
namespace Go.LS

/-! Equality that can be run. -/
mutual
def PV.eqb : PV → PV → Bool
  | .bool a, .bool b => a == b
  | .int k a, .int j b => decide (k = j) && decide (a = b)
  | .str a, .str b => decide (a = b)
  | .nilp, .nilp => true
  | .sl a, .sl b => PV.eqbss a b
  | .nilm, .nilm => true
  | .nilf, .nilf => true
  | .nili, .nili => true
  | .ifc t a, .ifc u b => decide (t = u) && PV.eqb a b
  | _, _ => false
def PV.eqbs : List PV → List PV → Bool
  | [], [] => true
  | a :: r, b :: s => PV.eqb a b && PV.eqbs r s
  | _, _ => false
def PV.eqbss : List (List PV) → List (List PV) → Bool
  | [], [] => true
  | a :: r, b :: s => PV.eqbs a b && PV.eqbss r s
  | _, _ => false
end
mutual
theorem PV.eq_of_eqb : ∀ (a b : PV), PV.eqb a b = true → a = b
  | .bool a, b, h => by cases b <;> simp_all [PV.eqb]
  | .int k a, b, h => by cases b <;> simp_all [PV.eqb]
  | .str a, b, h => by cases b <;> simp_all [PV.eqb]
  | .nilp, b, h => by cases b <;> simp_all [PV.eqb]
  | .sl a, b, h => by
    cases b with
    | sl b => simp only [PV.eqb] at h; rw [PV.eq_of_eqbss a b h]
    | _ => simp [PV.eqb] at h
  | .nilm, b, h => by cases b <;> simp_all [PV.eqb]
  | .nilf, b, h => by cases b <;> simp_all [PV.eqb]
  | .nili, b, h => by cases b <;> simp_all [PV.eqb]
  | .ifc t a, b, h => by
    cases b with
    | ifc u b => simp only [PV.eqb, Bool.and_eq_true, decide_eq_true_eq] at h; rw [h.1, PV.eq_of_eqb a b h.2]
    | _ => simp [PV.eqb] at h
theorem PV.eq_of_eqbs : ∀ (a b : List PV), PV.eqbs a b = true → a = b
  | [], b, h => by cases b <;> simp_all [PV.eqbs]
  | a :: r, b, h => by
    cases b with
    | nil => simp [PV.eqbs] at h
    | cons b s => simp only [PV.eqbs, Bool.and_eq_true] at h; rw [PV.eq_of_eqb a b h.1, PV.eq_of_eqbs r s h.2]
theorem PV.eq_of_eqbss : ∀ (a b : List (List PV)), PV.eqbss a b = true → a = b
  | [], b, h => by cases b <;> simp_all [PV.eqbss]
  | a :: r, b, h => by
    cases b with
    | nil => simp [PV.eqbss] at h
    | cons b s => simp only [PV.eqbss, Bool.and_eq_true] at h; rw [PV.eq_of_eqbs a b h.1, PV.eq_of_eqbss r s h.2]
end
mutual
theorem PV.eqb_refl : ∀ (a : PV), PV.eqb a a = true
  | .bool _ | .int _ _ | .str _ | .nilp | .nilm | .nilf | .nili => by simp [PV.eqb]
  | .sl a => by simp [PV.eqb, PV.eqbss_refl a]
  | .ifc t a => by simp [PV.eqb, PV.eqb_refl a]
theorem PV.eqbs_refl : ∀ (a : List PV), PV.eqbs a a = true
  | [] => rfl
  | a :: r => by simp [PV.eqbs, PV.eqb_refl a, PV.eqbs_refl r]
theorem PV.eqbss_refl : ∀ (a : List (List PV)), PV.eqbss a a = true
  | [] => rfl
  | a :: r => by simp [PV.eqbss, PV.eqbs_refl a, PV.eqbss_refl r]
end

mutual
def LV.eqb : LV → LV → Bool
  | .und, .und => true
  | .anyb, .anyb => true
  | .p a, .p b => PV.eqb a b
  | .sl a t f, .sl b u g => PV.eqbss a b && decide (t = u) && decide (f = g)
  | .tight a, .tight b => PV.eqbss a b
  | .gr a b, .gr c d => decide (a = c) && decide (b = d)
  | .ptr o i k, .ptr q j l => decide (o = q) && decide (i = j) && decide (k = l)
  | .pin a k, .pin b l => PV.eqbs a b && decide (k = l)
  | .rs o i k, .rs q j l => decide (o = q) && decide (i = j) && decide (k = l)
  | .mp o, .mp q => decide (o = q)
  | .it o, .it q => decide (o = q)
  | .fn f a b, .fn g c d => decide (f = g) && LV.eqbs a c && LV.eqbs b d
  | .ifc t a, .ifc u b => decide (t = u) && LV.eqb a b
  | .agg a, .agg b => LV.eqbs a b
  | .tup a, .tup b => LV.eqbs a b
  | _, _ => false
def LV.eqbs : List LV → List LV → Bool
  | [], [] => true
  | a :: r, b :: s => LV.eqb a b && LV.eqbs r s
  | _, _ => false
end
mutual
theorem LV.eq_of_eqb : ∀ (a b : LV), LV.eqb a b = true → a = b
  | .und, b, h => by cases b <;> simp_all [LV.eqb]
  | .anyb, b, h => by cases b <;> simp_all [LV.eqb]
  | .p a, b, h => by
    cases b with
    | p b => simp only [LV.eqb] at h; rw [PV.eq_of_eqb a b h]
    | _ => simp [LV.eqb] at h
  | .sl a t f, b, h => by
    cases b with
    | sl b u g => simp only [LV.eqb, Bool.and_eq_true, decide_eq_true_eq] at h; rw [PV.eq_of_eqbss a b h.1.1, h.1.2, h.2]
    | _ => simp [LV.eqb] at h
  | .tight a, b, h => by
    cases b with
    | tight b => simp only [LV.eqb] at h; rw [PV.eq_of_eqbss a b h]
    | _ => simp [LV.eqb] at h
  | .gr a d, b, h => by cases b <;> simp_all [LV.eqb]
  | .ptr o i k, b, h => by cases b <;> simp_all [LV.eqb]
  | .pin a k, b, h => by
    cases b with
    | pin b l => simp only [LV.eqb, Bool.and_eq_true, decide_eq_true_eq] at h; rw [PV.eq_of_eqbs a b h.1, h.2]
    | _ => simp [LV.eqb] at h
  | .rs o i k, b, h => by cases b <;> simp_all [LV.eqb]
  | .mp o, b, h => by cases b <;> simp_all [LV.eqb]
  | .it o, b, h => by cases b <;> simp_all [LV.eqb]
  | .fn f a c, b, h => by
    cases b with
    | fn g d e => simp only [LV.eqb, Bool.and_eq_true, decide_eq_true_eq] at h; rw [h.1.1, LV.eq_of_eqbs a d h.1.2, LV.eq_of_eqbs c e h.2]
    | _ => simp [LV.eqb] at h
  | .ifc t a, b, h => by
    cases b with
    | ifc u b => simp only [LV.eqb, Bool.and_eq_true, decide_eq_true_eq] at h; rw [h.1, LV.eq_of_eqb a b h.2]
    | _ => simp [LV.eqb] at h
  | .agg a, b, h => by
    cases b with
    | agg b => simp only [LV.eqb] at h; rw [LV.eq_of_eqbs a b h]
    | _ => simp [LV.eqb] at h
  | .tup a, b, h => by
    cases b with
    | tup b => simp only [LV.eqb] at h; rw [LV.eq_of_eqbs a b h]
    | _ => simp [LV.eqb] at h
theorem LV.eq_of_eqbs : ∀ (a b : List LV), LV.eqbs a b = true → a = b
  | [], b, h => by cases b <;> simp_all [LV.eqbs]
  | a :: r, b, h => by
    cases b with
    | nil => simp [LV.eqbs] at h
    | cons b s => simp only [LV.eqbs, Bool.and_eq_true] at h; rw [LV.eq_of_eqb a b h.1, LV.eq_of_eqbs r s h.2]
end
mutual
theorem LV.eqb_refl : ∀ (a : LV), LV.eqb a a = true
  | .und => rfl
  | .anyb => rfl
  | .p a => by simp [LV.eqb, PV.eqb_refl a]
  | .sl a _ _ => by simp [LV.eqb, PV.eqbss_refl a]
  | .tight a => by simp [LV.eqb, PV.eqbss_refl a]
  | .ptr _ _ _ | .rs _ _ _ | .mp _ | .it _ | .gr _ _ => by simp [LV.eqb]
  | .pin a _ => by simp [LV.eqb, PV.eqbs_refl a]
  | .fn _ a b => by simp [LV.eqb, LV.eqbs_refl a, LV.eqbs_refl b]
  | .ifc _ a => by simp [LV.eqb, LV.eqb_refl a]
  | .agg a => by simp [LV.eqb, LV.eqbs_refl a]
  | .tup a => by simp [LV.eqb, LV.eqbs_refl a]
theorem LV.eqbs_refl : ∀ (a : List LV), LV.eqbs a a = true
  | [] => rfl
  | a :: r => by simp [LV.eqbs, LV.eqb_refl a, LV.eqbs_refl r]
end

def eqbRow : List (List LV) → List (List LV) → Bool
  | [], [] => true
  | a :: r, b :: s => LV.eqbs a b && eqbRow r s
  | _, _ => false
def eqbMap : List (PV × LV) → List (PV × LV) → Bool
  | [], [] => true
  | a :: r, b :: s => PV.eqb a.1 b.1 && LV.eqb a.2 b.2 && eqbMap r s
  | _, _ => false
def LObj.eqb : LObj → LObj → Bool
  | .dead, .dead => true
  | .row a, .row b => eqbRow a b
  | .spare n m, .spare k l => decide (n = k) && decide (m = l)
  | .map a, .map b => eqbMap a b
  | .siter s p, .siter u q => decide (s = u) && decide (p = q)
  | _, _ => false
def eqbSt : List LObj → List LObj → Bool
  | [], [] => true
  | a :: r, b :: s => LObj.eqb a b && eqbSt r s
  | _, _ => false
theorem eq_of_eqbRow : ∀ {a b : List (List LV)}, eqbRow a b = true → a = b
  | [], b, h => by cases b <;> simp_all [eqbRow]
  | a :: r, b, h => by
    cases b with
    | nil => simp [eqbRow] at h
    | cons b s => simp only [eqbRow, Bool.and_eq_true] at h; rw [LV.eq_of_eqbs a b h.1, eq_of_eqbRow h.2]
theorem eq_of_eqbMap : ∀ {a b : List (PV × LV)}, eqbMap a b = true → a = b
  | [], b, h => by cases b <;> simp_all [eqbMap]
  | a :: r, b, h => by
    cases b with
    | nil => simp [eqbMap] at h
    | cons b s =>
      simp only [eqbMap, Bool.and_eq_true] at h
      rw [Prod.ext (PV.eq_of_eqb _ _ h.1.1) (LV.eq_of_eqb _ _ h.1.2), eq_of_eqbMap h.2]
theorem LObj.eq_of_eqb : ∀ {a b : LObj}, LObj.eqb a b = true → a = b
  | .dead, b, h => by cases b <;> simp_all [LObj.eqb]
  | .row a, b, h => by
    cases b with
    | row b => simp only [LObj.eqb] at h; rw [eq_of_eqbRow h]
    | _ => simp [LObj.eqb] at h
  | .spare n m, b, h => by cases b <;> simp_all [LObj.eqb]
  | .map a, b, h => by
    cases b with
    | map b => simp only [LObj.eqb] at h; rw [eq_of_eqbMap h]
    | _ => simp [LObj.eqb] at h
  | .siter s p, b, h => by cases b <;> simp_all [LObj.eqb]
theorem eq_of_eqbSt : ∀ {a b : List LObj}, eqbSt a b = true → a = b
  | [], b, h => by cases b <;> simp_all [eqbSt]
  | a :: r, b, h => by
    cases b with
    | nil => simp [eqbSt] at h
    | cons b s => simp only [eqbSt, Bool.and_eq_true] at h; rw [LObj.eq_of_eqb h.1, eq_of_eqbSt h.2]

theorem eqbRow_refl : ∀ (a : List (List LV)), eqbRow a a = true
  | [] => rfl
  | a :: r => by simp [eqbRow, LV.eqbs_refl a, eqbRow_refl r]
theorem eqbMap_refl : ∀ (a : List (PV × LV)), eqbMap a a = true
  | [] => rfl
  | a :: r => by simp [eqbMap, PV.eqb_refl, LV.eqb_refl, eqbMap_refl r]
theorem LObj.eqb_refl : ∀ (a : LObj), LObj.eqb a a = true
  | .dead => rfl
  | .row a => by simp [LObj.eqb, eqbRow_refl]
  | .spare _ _ => by simp [LObj.eqb]
  | .map a => by simp [LObj.eqb, eqbMap_refl]
  | .siter _ _ => by simp [LObj.eqb]
theorem eqbSt_refl : ∀ (a : List LObj), eqbSt a a = true
  | [] => rfl
  | a :: r => by simp [eqbSt, LObj.eqb_refl a, eqbSt_refl r]

structure LOper where
  dst : Option Nat
  op : LOp
  guard : Option (Nat × Bool)
  deriving Inhabited

/-- In a region that draws its order: an operation that leaves the store as it is; one that makes an object; one that all later ones wait for. -/
inductive Cls where
  | h | a | c
  deriving DecidableEq, Inhabited
structure DOp where
  cls : Cls
  idx : Nat
  must : List Nat
  op : LOper
  deriving Inhabited

inductive LCode where
  | skip
  | region (ops : List LOper)
  | drawn (ops : List DOp)
  | seq (a b : LCode)
  | cond (x : LX) (a b : LCode)
  | both (x : LX) (a b c : LCode)
  | block (id : Nat) (mask : List Bool) (c : LCode)
  | loop (mask : List Bool) (c : LCode)
  | exit (id : Nat) (mask : List Bool)
  | ret (mask : List Bool)
  | fail
  deriving Inhabited

inductive LRes where
  | tmp (t : Nat)
  | cell (t : Nat) (agg : Bool) (n : Nat)
  deriving Inhabited

structure LFn where
  ntmps : Nat
  results : List LRes
  body : LCode
  deriving Inhabited

structure LProg where
  fns : Nat → Option LFn
  summ : Nat → Option (List LV → List LObj → Option (LV × List LObj))
  weak : Nat → Bool

/-- A slice just by what it holds: who owns the room behind it is forgotten. -/
def LV.weak1 : LV → LV
  | .sl es _ _ => .p (.sl es)
  | .tight es => .p (.sl es)
  | v => v
def LV.weak : LV → LV
  | .agg cs => .agg (cs.map LV.weak1)
  | v => v.weak1
def wk (b : Bool) (args : List LV) : List LV := match b with
  | true => args.map LV.weak
  | false => args

inductive LOut where
  | normal
  | exit (id : Nat)
  | ret
  deriving DecidableEq, Inhabited

/-- Is an operation to be carried out? -/
def gd (t : List LV) : Option (Nat × Bool) → Option Bool
  | none => some true
  | some (j, want) => match t.getD j .und with
    | .p (.bool b) => some (b == want)
    | .tup [] => some false
    | _ => none

def putT (t : List LV) : Option Nat → LV → List LV
  | none, _ => t
  | some d, v => t.set d v

def runOp (call : CallF) (t : List LV) (st : List LObj) (o : LOper) : Option (LV × List LObj) :=
  match gd t o.guard with
  | some true => opStep call t st o.op
  | some false => some (.tup [], st)
  | none => none

def runOps (call : CallF) : List LOper → List LV → List LObj → Option (List LV × List LObj)
  | [], t, st => some (t, st)
  | o :: r, t, st => match runOp call t st o with
    | some (v, st') => runOps call r (putT t o.dst v) st'
    | none => none

/-- It leaves the store as it is. -/
def pureV (o : LOp) (v : LV) : Bool :=
  match o with
  | .mv _ | .seq _ _ _ _ | .pick _ _ _ | .build _ _ | .load _ _ _ | .nilChk _ | .bin _ _ _ | .beq _ _ _ | .peq _ _ _ | .nileq _ _ _ | .un _ _ | .cv _ _ | .fn _ _ | .iface _ _ | .sslice _ _ _ _ | .slice _ _ _ _ _ | .fieldAddr _ _ | .field _ _ _ _
  | .indexAddr _ _ _ | .arrAddr _ _ _ _ | .index _ _ | .arrIndex _ _ _ _ _ | .lookup _ _ _ _ _ | .extract _ _ | .len _ | .slen _ | .mlen _ | .const _ | .cap _ | .mx _ _ | .mn _ _ => true
  | .mkrow r _ _ _ _ => !r && (match v with | .tight _ => true | .tup [] => true | _ => false)
  | _ => false

def LV.isRs : LV → Bool
  | .rs _ _ _ => true
  | _ => false

/-- It looks at nothing of the store. -/
def statB (t : List LV) : LOp → Bool
  | .load _ _ _ | .lookup _ _ _ _ _ | .mlen _ => false
  | .slice _ x _ _ _ | .indexAddr _ x _ | .len x => !(x.ev t).isRs
  | .mv _ | .seq _ _ _ _ | .pick _ _ _ | .build _ _ | .nilChk _ | .bin _ _ _ | .beq _ _ _ | .peq _ _ _ | .nileq _ _ _ | .un _ _ | .cv _ _ | .fn _ _ | .iface _ _ | .sslice _ _ _ _ | .fieldAddr _ _ | .field _ _ _ _
  | .arrAddr _ _ _ _ | .index _ _ | .arrIndex _ _ _ _ _ | .extract _ _ | .slen _ | .const _ | .cap _ | .mx _ _ | .mn _ _ => true
  | .mkrow _ _ _ _ _ => true
  | _ => false

def heldOk (call : CallF) (st : List LObj) (held : List (DOp × List LV × LV)) : Bool :=
  held.all fun x => match runOp call x.2.1 st x.1.op with
    | some (v, _) => LV.eqb x.2.2 v
    | none => false

/-- Is an object new, and no tag? -/
def newOk (st st' : List LObj) : Bool :=
  match st'[st.length]? with
  | none => true
  | some (.row _) => true
  | some (.map _) => true
  | _ => false

def runDrawn (call : CallF) : List DOp → List (DOp × List LV × LV) → List LV → List LObj → Option (List LV × List LObj)
  | [], _, t, st => some (t, st)
  | d :: r, held, t, st => match runOp call t st d.op with
    | none => none
    | some (v, st') =>
      match d.cls with
      | .h => if pureV d.op.op v then runDrawn call r (if statB t d.op.op then held else (d, t, v) :: held) (putT t d.op.dst v) st' else none
      | .a => if newOk st st' && heldOk call st' held then runDrawn call r held (putT t d.op.dst v) st' else none
      | .c =>
        let held' := held.filter fun x => !d.must.contains x.1.idx
        if decide (st.length ≤ st'.length) && heldOk call st' held' then runDrawn call r held' (putT t d.op.dst v) st' else none

def gcIds (k : Nat) (st : List LObj) (roots : List Nat) : List Nat := reach st 100000 ((st.take k).flatMap LObj.refs ++ roots) (List.range k)

/-- Drop what nothing leads to; the first k objects stay where they are. -/
def gc (k : Nat) (vs : List LV) (st : List LObj) : Option (List LV × List LObj) :=
  let ids := gcIds k st (vs.flatMap LV.refs)
  if closed st ids && (vs.flatMap LV.refs).all (ids.contains ·) && decide ids.Nodup && decide (ids.take k = List.range k) then
    some (vs.map (LV.ren fun q => ids.idxOf q), sub st ids)
  else none

/-- Forget what is not read any more. -/
def kill : List Bool → List LV → List LV
  | true :: m, v :: t => v :: kill m t
  | false :: m, _ :: t => .und :: kill m t
  | _, t => t

def cont2 (r : Option (LOut × List LV × List LObj)) (f : List LV → List LObj → Option (LOut × List LV × List LObj)) : Option (LOut × List LV × List LObj) :=
  match r with
  | some (.normal, t', st') => f t' st'
  | r => r

/-- Both ways must come to the same. -/
def both (x y : Option (LOut × List LV × List LObj)) : Option (LOut × List LV × List LObj) :=
  match x, y with
  | some (o1, t1, s1), some (o2, t2, s2) => if o1 = o2 ∧ LV.eqbs t1 t2 = true ∧ eqbSt s1 s2 = true then some (o1, t1, s1) else none
  | _, _ => none

theorem both_eq {x y : Option (LOut × List LV × List LObj)} {r : LOut × List LV × List LObj} (h : both x y = some r) : x = some r ∧ y = some r := by
  unfold both at h
  split at h
  · split at h
    · rename_i hc
      obtain ⟨h1, h2, h3⟩ := hc
      cases h
      rw [h1, LV.eq_of_eqbs _ _ h2, eq_of_eqbSt h3]
      exact ⟨rfl, rfl⟩
    · cases h
  · cases h

def exec (call : CallF) (k : Nat) : Nat → LCode → List LV → List LObj → Option (LOut × List LV × List LObj)
  | 0, _, _, _ => none
  | n + 1, c, t, st => match c with
    | .skip => some (.normal, t, st)
    | .region ops => match runOps call ops t st with
      | some (t', st') => some (.normal, t', st')
      | none => none
    | .drawn ops => match runDrawn call ops [] t st with
      | some (t', st') => some (.normal, t', st')
      | none => none
    | .seq a b => cont2 (exec call k n a t st) (exec call k n b)
    | .both x a b c => match x.ev t with
      | .p (.bool true) => cont2 (exec call k n a t st) (exec call k n c)
      | .p (.bool false) => cont2 (exec call k n b t st) (exec call k n c)
      | .anyb => both (cont2 (exec call k n a t st) (exec call k n c)) (cont2 (exec call k n b t st) (exec call k n c))
      | _ => none
    | .cond x a b => match x.ev t with
      | .p (.bool true) => exec call k n a t st
      | .p (.bool false) => exec call k n b t st
      | .anyb => both (exec call k n a t st) (exec call k n b t st)
      | _ => none
    | .block id mask c => match exec call k n c t st with
      | some (.exit i, t', st') => if i = id then some (.normal, kill mask t', st') else some (.exit i, t', st')
      | some (.normal, t', st') => some (.normal, kill mask t', st')
      | r => r
    | .loop mask c => match gc k (kill mask t) st with
      | some (t', st') => match exec call k n c t' st' with
        | some (.normal, t'', st'') => exec call k n (.loop mask c) t'' st''
        | r => r
      | none => none
    | .exit id mask => some (.exit id, kill mask t, st)
    | .ret mask => some (.ret, kill mask t, st)
    | .fail => none

def evRes (t : List LV) (st : List LObj) : List LRes → Option (List LV)
  | [] => some []
  | .tmp i :: r => match evRes t st r with
    | some l => some (t.getD i .und :: l)
    | none => none
  | .cell i agg n :: r => match (t.getD i .und).ldAt st n with
    | some cs => match ofCells agg cs, evRes t st r with
      | some v, some l => some (v :: l)
      | _, _ => none
    | none => none

def oneRes : List LV → LV
  | [v] => v
  | vs => .tup vs

def runF (lp : LProg) : Nat → CallF
  | 0 => fun _ _ _ => none
  | n + 1 => fun f args st =>
    match lp.summ f with
    | some g => g args st
    | none => match lp.fns f with
      | none => none
      | some lf => match exec (runF lp n) st.length n lf.body (wk (lp.weak f) args ++ List.replicate (lf.ntmps - args.length) .und) st with
        | some (.exit _, _, _) => none
        | some (_, t', st') => match evRes t' st' lf.results with
          | some vs => match gc st.length vs st' with
            | some (vs', st'') => some (oneRes vs', st'')
            | none => none
          | none => none
        | none => none

end Go.LS
