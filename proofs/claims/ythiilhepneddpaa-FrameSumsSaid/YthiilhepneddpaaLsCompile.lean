/- From loaded code to LS's. -/
import Derived.Test.YthiilhepneddpaaLsDrawn2
set_option linter.unusedVariables false
set_option linter.unusedSimpArgs false
namespace Go.LS

/-- Work a number out now. -/
def withN {α : Type} (n : Nat) (f : Nat → α) : α :=
  match n with
  | 0 => f 0
  | k + 1 => f (k + 1)
theorem withN_eq {α : Type} (n : Nat) (f : Nat → α) : withN n f = f n := by cases n <;> rfl

def edgeMask (acc : List Nat) : List Edge → Nat → Nat
  | [], m => m
  | e :: r, m => if Region.binds .any e then edgeMask acc r (m ||| 2 ^ e.on ||| acc.getD e.on 0) else edgeMask acc r m

/-- For each operation, the ones that are done ahead of it, as bits. -/
def masks : List Oper → List Nat → List Nat
  | [], acc => acc
  | o :: r, acc => withN (edgeMask acc o.after.toList 0) fun m => masks r (acc ++ [m])

theorem edgeMask_sound {ops : Array Oper} {acc : List Nat} (hacc : ∀ j i, (acc.getD j 0).testBit i = true → Dep ops j i) {j : Nat} {o : Oper} (ho : ops[j]? = some o) :
    ∀ (l : List Edge) (m : Nat), (∀ e ∈ l, e ∈ o.after) → (∀ i, m.testBit i = true → Dep ops j i) → ∀ i, (edgeMask acc l m).testBit i = true → Dep ops j i
  | [], m, _, hm, i, h => hm i h
  | e :: r, m, hl, hm, i, h => by
    simp only [edgeMask] at h
    split at h
    · rename_i hb
      refine edgeMask_sound hacc ho r _ (fun x hx => hl x (by simp [hx])) (fun i hi => ?_) i h
      simp only [Nat.testBit_or, Bool.or_eq_true] at hi
      rcases hi with (hi | hi) | hi
      · exact hm i hi
      · rw [Nat.testBit_two_pow] at hi
        have := of_decide_eq_true hi
        subst this
        exact .one ho (hl e (by simp)) hb
      · exact .more ho (hl e (by simp)) hb (hacc _ _ hi)
    · exact edgeMask_sound hacc ho r _ (fun x hx => hl x (by simp [hx])) hm i h

theorem masks_sound {ops : Array Oper} : ∀ (l pre : List Oper) (acc : List Nat), ops.toList = pre ++ l → acc.length = pre.length → (∀ j i, (acc.getD j 0).testBit i = true → Dep ops j i) →
    ∀ j i, ((masks l acc).getD j 0).testBit i = true → Dep ops j i
  | [], pre, acc, _, _, h => h
  | o :: r, pre, acc, he, hlen, h => by
    simp only [masks, withN_eq]
    refine masks_sound r (pre ++ [o]) _ (by simp [he]) (by simp [hlen]) ?_
    have ho : ops[pre.length]? = some o := by
      rw [← Array.getElem?_toList, he]
      simp
    intro j i hj
    rcases Nat.lt_trichotomy j acc.length with hlt | rfl | hgt
    · rw [List.getD_eq_getElem?_getD, List.getElem?_append_left hlt, ← List.getD_eq_getElem?_getD] at hj
      exact h j i hj
    · rw [List.getD_eq_getElem?_getD, get_snoc] at hj
      rw [hlen]
      exact edgeMask_sound h ho _ 0 (by simp) (fun i hi => by simp at hi) i hj
    · rw [List.getD_eq_getElem?_getD, List.getElem?_eq_none (by simp; omega)] at hj
      simp at hj

def clsOf (o : LOp) : Cls :=
  if o.makes then .a else
  match o with
  | .mkrow _ _ _ _ _ => .h
  | o => if pureV o .und then .h else .c

def readyB (direct : Nat) (done : Nat) : Bool := (direct &&& done) == direct

/-- The next in order: one that all wait for only when there is no other. -/
def pickNext (dir : List Nat) (cls : List Cls) (done : Nat) : List Nat → Option Nat → Option Nat
  | [], found => found
  | i :: r, found =>
    if done.testBit i then pickNext dir cls done r found
    else if readyB (dir.getD i 0) done then
      match cls.getD i .c with
      | .c => pickNext dir cls done r (match found with | some x => some x | none => some i)
      | _ => some i
    else pickNext dir cls done r found

def orderOf (dir : List Nat) (cls : List Cls) (n : Nat) : Nat → Nat → List Nat
  | 0, _ => []
  | k + 1, done => match pickNext dir cls done (List.range n) none with
    | some i => withN (done ||| 2 ^ i) fun done' => i :: orderOf dir cls n k done'
    | none => []

def mkEs (los : List LOper) (cls : List Cls) (ms : List Nat) (order : List Nat) : List DOp :=
  order.map fun i => ⟨cls.getD i .c, i, match cls.getD i .c with | .c => (List.range los.length).filter fun j => (ms.getD i 0).testBit j && (match cls.getD j .c with | .h => true | _ => false) | _ => [], los.getD i default⟩

def confB (looks : List (List Nat)) (d e : DOp) : Bool :=
  (match d.op.dst with | some x => (looks.getD e.idx []).contains x | none => false) || (match e.op.dst with | some x => (looks.getD d.idx []).contains x | none => false)

def pairOk (ms : List Nat) (looks : List (List Nat)) (d e : DOp) : Bool :=
  !(d.idx == e.idx) && (match d.op.dst, e.op.dst with | some x, some y => !(x == y) | _, _ => true) &&
  (!((match d.cls with | .c => true | _ => false) || confB looks d e) || (ms.getD e.idx 0).testBit d.idx)

def pairsB (f : DOp → DOp → Bool) : List DOp → Bool
  | [] => true
  | d :: r => r.all (f d) && pairsB f r

theorem pairsB_inv {f : DOp → DOp → Bool} : ∀ {es : List DOp}, pairsB f es = true → ∀ (p q : Nat) (d e : DOp), p < q → es[p]? = some d → es[q]? = some e → f d e = true
  | [], _, p, q, d, e, _, hp, _ => by simp at hp
  | x :: r, h, p, q, d, e, hpq, hp, hq => by
    simp only [pairsB, Bool.and_eq_true] at h
    cases q with
    | zero => omega
    | succ q =>
      cases p with
      | zero => simp at hp; subst hp; exact List.all_eq_true.1 h.1 e (List.mem_of_getElem? (by simpa using hq))
      | succ p => exact pairsB_inv h.2 p q d e (by omega) (by simpa using hp) (by simpa using hq)

def topoB (ops : Array Oper) : List Nat → List DOp → Bool
  | _, [] => true
  | bef, d :: r => (match ops[d.idx]? with
    | some o => o.after.toList.all fun e => !Region.binds .any e || bef.contains e.on
    | none => false) && topoB ops (d.idx :: bef) r

theorem topoB_inv {ops : Array Oper} : ∀ {es : List DOp} {bef : List Nat}, topoB ops bef es = true → ∀ (p : Nat) (d : DOp) (o : Oper) (e : Edge), es[p]? = some d → ops[d.idx]? = some o → e ∈ o.after → Region.binds .any e = true →
    e.on ∈ bef ∨ ∃ (q : Nat) (d' : DOp), q < p ∧ es[q]? = some d' ∧ d'.idx = e.on
  | [], bef, _, p, d, o, e, hp, _, _, _ => by simp at hp
  | x :: r, bef, h, p, d, o, e, hp, ho, he, hb => by
    simp only [topoB, Bool.and_eq_true] at h
    cases p with
    | zero =>
      simp at hp; subst hp
      have h1 := h.1
      rw [ho] at h1
      have := List.all_eq_true.1 h1 e (by simpa using he)
      simp [hb] at this
      exact .inl this
    | succ p =>
      rcases topoB_inv h.2 p d o e (by simpa using hp) ho he hb with hm | ⟨q, d', hq, hd, hi⟩
      · rcases List.mem_cons.1 hm with hm | hm
        · exact .inr ⟨0, x, by omega, rfl, hm.symm⟩
        · exact .inl hm
      · exact .inr ⟨q + 1, d', by omega, by simpa using hd, hi⟩

def schedB (ops : Array Oper) (los : List LOper) (ms : List Nat) (looks : List (List Nat)) (es : List DOp) : Bool :=
  ((List.range ops.size).all fun i => es.any fun d => d.idx == i) &&
  (es.all fun d => decide (d.idx < los.length) && (match d.cls with | .a => d.op.op.makes | _ => true) && d.must.all fun j => (ms.getD d.idx 0).testBit j) &&
  pairsB (pairOk ms looks) es && topoB ops [] es

theorem compOps_get {P : Program} {rs : Nat → Bool} {ops : Array Oper} : ∀ {l : List Oper} {k : Nat} {los : List LOper}, compOps P rs ops k l = some los →
    los.length = l.length ∧ ∀ (i : Nat) lo, los[i]? = some lo → ∃ o, l[i]? = some o ∧ compOper P (rs (k + i)) ops o = some lo
  | [], k, los, h => by simp only [compOps] at h; cases h; simp
  | o :: l, k, los, h => by
    simp only [compOps] at h
    split at h
    · rename_i x lr hx hlr
      cases h
      obtain ⟨h1, h2⟩ := compOps_get hlr
      refine ⟨by simp [h1], fun i lo hi => ?_⟩
      cases i with
      | zero => simp at hi; subst hi; exact ⟨o, rfl, hx⟩
      | succ i =>
        obtain ⟨o', a, b⟩ := h2 i lo (by simpa using hi)
        exact ⟨o', by simpa using a, by rw [← b]; congr 2; omega⟩
    · cases h

theorem schedB_sound {P : Program} {rs : Nat → Bool} {ops : Array Oper} {los : List LOper} (hc : compOps P rs ops 0 ops.toList = some los) {cls : List Cls} {order : List Nat}
    (h : schedB ops los (masks ops.toList []) (ops.toList.map fun o => o.looksAt ops) (mkEs los cls (masks ops.toList []) order) = true) :
    Sched P ops (mkEs los cls (masks ops.toList []) order) := by
  have hms := masks_sound (ops := ops) ops.toList [] [] rfl rfl (fun j i hj => by simp at hj)
  generalize hm : masks ops.toList [] = ms at h hms ⊢
  generalize he : mkEs los cls ms order = es at h ⊢
  unfold schedB at h
  simp only [Bool.and_eq_true] at h
  obtain ⟨⟨⟨h1, h2⟩, h3⟩, h4⟩ := h
  have hop : ∀ d ∈ es, d.op = los.getD d.idx default := by
    intro d hd
    rw [← he] at hd
    simp only [mkEs, List.mem_map] at hd
    obtain ⟨i, _, rfl⟩ := hd
    rfl
  have hall : ∀ (p : Nat) (d : DOp), es[p]? = some d → ∃ o, ops[d.idx]? = some o ∧ compOper P (rs d.idx) ops o = some d.op ∧ (d.cls = .a → d.op.op.makes = true) ∧ ∀ j ∈ d.must, Dep ops d.idx j := by
    intro p d hp
    have hmem := List.mem_of_getElem? hp
    have := List.all_eq_true.1 h2 d hmem
    simp only [Bool.and_eq_true, decide_eq_true_eq] at this
    obtain ⟨⟨b1, b2⟩, b3⟩ := this
    obtain ⟨o, c1, c2⟩ := (compOps_get hc).2 d.idx (los[d.idx]) (by simp [b1])
    refine ⟨o, by rw [← Array.getElem?_toList]; exact c1, ?_, fun hcl => by rw [hcl] at b2; exact b2, fun j hj => hms _ _ (List.all_eq_true.1 b3 j hj)⟩
    rw [hop d hmem, List.getD_eq_getElem?_getD, List.getElem?_eq_getElem b1]
    simpa using c2
  have hpair := pairsB_inv h3
  have hlooks : ∀ i o, ops[i]? = some o → (ops.toList.map fun o => o.looksAt ops).getD i [] = o.looksAt ops := by
    intro i o ho
    rw [List.getD_eq_getElem?_getD, List.getElem?_map, Array.getElem?_toList, ho]
    rfl
  refine ⟨fun p d hp => ?_, fun i hi => ?_, ?_, ?_, ?_, ?_, ?_⟩
  · obtain ⟨o, a1, a2, a3, _⟩ := hall p d hp
    exact ⟨o, _, a1, a2, a3⟩
  · have := List.all_eq_true.1 h1 i (List.mem_range.2 hi)
    obtain ⟨d, hd, hb⟩ := List.any_eq_true.1 this
    obtain ⟨p, hp⟩ := List.getElem?_of_mem hd
    exact ⟨p, d, hp, by simpa using hb⟩
  · intro p q d e hp hq hi
    rcases Nat.lt_trichotomy p q with hlt | rfl | hgt
    · have := hpair p q d e hlt hp hq
      simp [pairOk, hi] at this
    · rfl
    · have := hpair q p e d hgt hq hp
      simp [pairOk, hi] at this
  · intro p q d e x hp hq hd' he'
    rcases Nat.lt_trichotomy p q with hlt | rfl | hgt
    · have := hpair p q d e hlt hp hq
      simp [pairOk, hd', he'] at this
    · rfl
    · have := hpair q p e d hgt hq hp
      simp [pairOk, hd', he'] at this
  · intro p q d e o o' hpq hp hq ho ho' hcc
    have := hpair p q d e hpq hp hq
    simp only [pairOk, Bool.and_eq_true, Bool.or_eq_true, Bool.not_eq_true'] at this
    rcases this.2 with hf | hb
    · exfalso
      simp only [Bool.or_eq_false_iff] at hf
      rcases hcc with hcl | hcf
      · rw [hcl] at hf; exact absurd hf.1 (by simp)
      · obtain ⟨o1, ho1, hc1, _⟩ := hall p d hp
        obtain ⟨o2, ho2, hc2, _⟩ := hall q e hq
        rw [ho] at ho1; cases ho1
        rw [ho'] at ho2; cases ho2
        have hf2 := hf.2
        simp only [confB, Bool.or_eq_false_iff, (dst_of_comp hc1).1, (dst_of_comp hc2).1, hlooks _ _ ho, hlooks _ _ ho'] at hf2
        rcases hcf with ⟨x, hx, hmem⟩ | ⟨x, hx, hmem⟩
        · have := hf2.1; rw [hx] at this; simp at this; exact this hmem
        · have := hf2.2; rw [hx] at this; simp at this; exact this hmem
    · exact hms _ _ hb
  · intro q e i hq hi
    obtain ⟨o, _, _, _, a4⟩ := hall q e hq
    exact a4 i hi
  · intro p d o e hp ho he hb
    rcases topoB_inv h4 p d o e hp ho he hb with hm | h
    · cases hm
    · exact h

def compDrawn (P : Program) (rs : Nat → Bool) (ops : Array Oper) : Option (List DOp) :=
  match compOps P rs ops 0 ops.toList with
  | none => none
  | some los =>
    let ms := masks ops.toList []
    let cls := los.map fun o => clsOf o.op
    let dir := ops.toList.map fun o => o.after.toList.foldl (fun m e => if Region.binds .any e then m ||| 2 ^ e.on else m) 0
    let es := mkEs los cls ms (orderOf dir cls los.length los.length 0)
    if schedB ops los ms (ops.toList.map fun o => o.looksAt ops) es then some es else none

theorem compDrawn_sound {P : Program} (hm : P.follows .mixedOrders = true) {rs : Nat → Bool} {ops : Array Oper} {es : List DOp} (h : compDrawn P rs ops = some es) : DrawnR P ops es := by
  unfold compDrawn at h
  split at h
  · cases h
  · rename_i los hc
    simp only at h
    split at h
    · rename_i hb
      cases h
      have hs := schedB_sound hc hb
      generalize mkEs los _ _ _ = es at hs ⊢
      intro call hok t st t' st' G w a Q id hr h ht hq
      obtain ⟨T, S, V, tr, e1, e2, e3, e4, _⟩ := runDrawn_trace es [] t t' st st' hr (by simp)
      subst e1; subst e2; subst e3; subst e4
      refine wp_region_any hm ?_
      have h' : WR G (S 0) { w with drawn := w.drawn + 1 } := h.of_heap rfl
      have hx' : Ext0 G (S 0) w G (S 0) { w with drawn := w.drawn + 1 } := (Ext.of_heap (G := G) (st := S 0) (w := w) (w' := { w with drawn := w.drawn + 1 }) rfl rfl rfl rfl).to0
      have hmk : ∀ (p : Nat) (d : DOp), es[p]? = some d → d.cls = .a → S (p + 1) = S p ∨ ∃ x, S (p + 1) = S p ++ [x] := drawn_mk hs tr
      obtain ⟨m, a1, a2, a3, a4, a5, a6, a7⟩ := advance (G0 := G) (w0 := w) (L := Array.replicate ops.size false) tr hmk es.length 0 rfl (Nat.zero_le _) h' hx' (fun p d x hp => by omega)
      have hnl : ∀ i, ¬ LL (Array.replicate ops.size false) i := by
        intro i hi
        unfold LL at hi
        by_cases hlt : i < ops.size
        · simp [hlt] at hi
        · simp [hlt] at hi
      refine drawn_any (G0 := G) (w0 := w) hok hs tr (df := a.defers) (fun a' w' G' g1 g2 g3 g4 => hq a' w' G' g1 g2 g3 g4) ops.size _ a _ m G [] ⟨by simp, fun i hi => absurd hi (hnl i), a2, fun p d hp hd hc => absurd hc (a3 p d (by omega) hp hd), fun d hd => ⟨a4 d hd, hnl _⟩, a5, a6, a7, ht.1, fun i hi p d hp hl => absurd hl (hnl _), fun i hi _ => ht.get i⟩
        List.nodup_nil (by simp) (by simp) rfl
    · cases h

/-! Code. -/
/-- A literal's memory that is given up in the same region. -/
def autoR (P : Program) (ops : Array Oper) (i : Nat) : Bool :=
  match ops[i]? with
  | some o => (match o.op, o.dst with
    | .buildSlice _ _ _, some d => ops.toList.any fun q => (match q.op with
      | .convert src dst (.tmp x) => x == d && src == dst && (match P.underlying src with | some (.slice _) => true | _ => false)
      | _ => false)
    | _, _ => false)
  | none => false

def compC0 (P : Program) (rs : Nat → Nat → Bool) : Code → Option LCode
  | .skip => some .skip
  | .region id ops draw =>
    if draw then (match compDrawn P (fun i => rs id i || autoR P ops i) ops with | some es => some (.drawn es) | none => some .fail)
    else (match compOps P (fun i => rs id i || autoR P ops i) ops 0 ops.toList with | some l => some (.region l) | none => some .fail)
  | .seq a b => match compC0 P rs a, compC0 P rs b with
    | some x, some y => some (.seq x y)
    | _, _ => none
  | .cond c a b => match compX c, compC0 P rs a, compC0 P rs b with
    | some z, some x, some y => some (.cond z x y)
    | _, _, _ => none
  | .block id c => match compC0 P rs c with
    | some x => some (.block id [] x)
    | none => none
  | .loop c => match compC0 P rs c with
    | some x => some (.loop [] x)
    | none => none
  | .exit id => some (.exit id [])
  | .ret => some (.ret [])
  | _ => some .fail

/-- Is the region's word on a slice that may be nil asked? -/
def asksNil (P : Program) (rs : Nat → Nat → Bool) (r : Code) (x : Operand) : Bool :=
  match r, x with
  | .region _ ops false, .tmp t => ops.toList.any fun o => (o.dst == some t) && (match compOp0 P false o.op with | some (.nileq _ .slice _) => true | _ => false)
  | _, _ => false

def compC (P : Program) (rs : Nat → Nat → Bool) : Code → Option LCode
  | .seq (.seq r (.cond x a b)) c => if asksNil P rs r x then
      match compX x, compC0 P rs r, compC0 P rs a, compC0 P rs b, compC0 P rs c with
      | some z, some lr, some la, some lb, some lc => some (.seq lr (.both z la lb lc))
      | _, _, _, _, _ => none
    else compC0 P rs (.seq (.seq r (.cond x a b)) c)
  | .seq k (.seq (.seq r (.cond x a b)) c) => if asksNil P rs r x then
      match compX x, compC0 P rs k, compC0 P rs r, compC0 P rs a, compC0 P rs b, compC0 P rs c with
      | some z, some lk, some lr, some la, some lb, some lc => some (.seq lk (.seq lr (.both z la lb lc)))
      | _, _, _, _, _, _ => none
    else compC0 P rs (.seq k (.seq (.seq r (.cond x a b)) c))
  | c => compC0 P rs c

theorem compC0_sound {P : Program} (hm : P.follows .mixedOrders = true) {rs : Nat → Nat → Bool} : ∀ {c : Code} {lc : LCode}, compC0 P rs c = some lc → CR P c lc
  | .skip, lc, h => by simp only [compC0] at h; cases h; exact .skip
  | .region id ops draw, lc, h => by
    simp only [compC0] at h
    split at h
    · rename_i hd
      subst hd
      split at h <;> cases h
      · exact .drawn id (compDrawn_sound hm ‹_›)
      · exact .fail _
    · rename_i hd
      have : draw = false := by cases draw <;> simp_all
      subst this
      split at h <;> cases h
      · exact .region id ‹_›
      · exact .fail _
  | .seq a b, lc, h => by
    simp only [compC0] at h
    split at h <;> cases h
    exact .seq (compC0_sound hm ‹_›) (compC0_sound hm ‹_›)
  | .cond c a b, lc, h => by
    simp only [compC0] at h
    split at h <;> cases h
    exact .cond ‹_› (compC0_sound hm ‹_›) (compC0_sound hm ‹_›)
  | .block id c, lc, h => by
    simp only [compC0] at h
    split at h <;> cases h
    exact .block id _ (compC0_sound hm ‹_›)
  | .loop c, lc, h => by
    simp only [compC0] at h
    split at h <;> cases h
    exact .loop _ (compC0_sound hm ‹_›)
  | .exit id, lc, h => by simp only [compC0] at h; cases h; exact .exit id _
  | .ret, lc, h => by simp only [compC0] at h; cases h; exact .ret _
  | .rangeFunc .., lc, h => by simp only [compC0] at h; cases h; exact .fail _
  | .scope _, lc, h => by simp only [compC0] at h; cases h; exact .fail _
  | .label _, lc, h => by simp only [compC0] at h; cases h; exact .fail _
  | .goto _, lc, h => by simp only [compC0] at h; cases h; exact .fail _
  | .refuse _, lc, h => by simp only [compC0] at h; cases h; exact .fail _

theorem compC_sound {P : Program} (hm : P.follows .mixedOrders = true) {rs : Nat → Nat → Bool} {c : Code} {lc : LCode} (h : compC P rs c = some lc) : CR P c lc := by
  unfold compC at h
  split at h
  · split at h
    · split at h
      · cases h
        exact .both ‹_› (compC0_sound hm ‹_›) (compC0_sound hm ‹_›) (compC0_sound hm ‹_›) (compC0_sound hm ‹_›)
      · cases h
    · exact compC0_sound hm h
  · split at h
    · split at h
      · cases h
        exact .seq (compC0_sound hm ‹_›) (.both ‹_› (compC0_sound hm ‹_›) (compC0_sound hm ‹_›) (compC0_sound hm ‹_›) (compC0_sound hm ‹_›))
      · cases h
    · exact compC0_sound hm h
  · exact compC0_sound hm h

theorem CR.annot {P : Program} {c : Code} {lc : LCode} (h : CR P c lc) (n : Nat) (ret : List Nat) : ∀ out env, CR P c (annot n ret lc out env) := by
  induction h with
  | skip => intro _ _; exact .skip
  | region id h => intro _ _; exact .region id h
  | drawn id h => intro _ _; exact .drawn id h
  | seq _ _ ih1 ih2 => intro _ _; exact .seq (ih1 _ _) (ih2 _ _)
  | cond hx _ _ ih1 ih2 => intro _ _; exact .cond hx (ih1 _ _) (ih2 _ _)
  | both hx _ _ _ _ ih0 ih1 ih2 ih3 => intro _ _; exact .both hx (ih0 _ _) (ih1 _ _) (ih2 _ _) (ih3 _ _)
  | block id mask _ ih => intro _ _; exact .block id _ (ih _ _)
  | loop mask _ ih => intro _ _; exact .loop _ (ih _ _)
  | exit id mask => intro _ _; exact .exit id _
  | ret mask => intro _ _; exact .ret _
  | fail c => intro _ _; exact .fail c

def LRes.tmp' : LRes → Nat
  | .tmp t => t
  | .cell t _ _ => t

def compF (P : Program) (rs : Nat → Nat → Bool) (fn : Func) : Option LFn :=
  match fn.body with
  | none => none
  | some c => match compC P rs c, compRes P fn.results.toList with
    | some lc, some res => some ⟨fn.ntmps, res, annot fn.ntmps (res.map LRes.tmp') lc (res.map LRes.tmp') []⟩
    | _, _ => none

theorem compF_sound {P : Program} (hm : P.follows .mixedOrders = true) {rs : Nat → Nat → Bool} {f : FuncId} {fn : Func} {lf : LFn} (hf : P.funcs[f]? = some fn) (hpl : plainFn P f = true) (h : compF P rs fn = some lf) : FR P f lf := by
  unfold compF at h
  split at h
  · cases h
  · rename_i c hc
    split at h
    · rename_i lc res h1 h2
      cases h
      exact ⟨⟨fn, c, hf, hc, rfl, (compC_sound hm h1).annot _ _ _ _, h2⟩, hpl⟩
    · cases h

end Go.LS
