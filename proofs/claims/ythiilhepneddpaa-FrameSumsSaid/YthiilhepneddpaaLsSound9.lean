/- Make; maps. -/
import Derived.Test.YthiilhepneddpaaLsSound8
set_option linter.unusedVariables false
set_option linter.unusedSimpArgs false
namespace Go.LS
section ops
variable {P : Program} {G : Gh} {st st' : List LObj} {w : World} {t : List LV} {a : Act} {o : Oper} {v : LV}

theorem run_mkslice {ty e : TypeId} {l c : Operand} (ho : o.op = .makeSlice ty l c) (hty : P.underlying ty = some (.slice e)) {i : TypeInfo} (hi : P.info? e = some i)
    {z : List LV} (hz : zeroOf P e = some z) {l' c' : LX} (hl' : compX l = some l') (hc' : compX c = some c') {m n : Int} (hm : (l'.ev t).asInt = some m) (hn : (c'.ev t).asInt = some n)
    (hc : 0 ≤ m ∧ m ≤ n ∧ n * i.bytes ≤ 281474976710656 ∧ n ≤ maxLen ∧ z.length = i.size ∧ 0 < i.size) (hx : XsR G t a o.op) :
    ∃ zv : Value, CellsR G z zv.cells ∧ (execOp a.eval o).run P w = .ok (.value (.slice (some ⟨w.heap.size, 0, none⟩) m.toNat n.toNat)) (w.alloc (.cells (madeCells zv.cells (n.toNat * i.size)) e)) := by
  have h1 := hx l (by rw [ho]; simp [Op.operands]) l' hl'
  have h2 := hx c (by rw [ho]; simp [Op.operands]) c' hc'
  obtain ⟨kl, ul⟩ := asInt_inv hm h1
  obtain ⟨kc, uc⟩ := asInt_inv hn h2
  obtain ⟨i', zv, hi', hzv, hzr⟩ := zeroOf_inv hz
  rw [hi] at hi'; cases hi'
  obtain ⟨c1, c2, c3, c4, c5, c6⟩ := hc
  have hrun := run_make (P := P) w ty e i zv hty hi hzv kl kc m n c1 c2 (by rw [Int.mul_comm]; exact c3) (by have := c4; simp only [maxLen] at this; omega)
  have hrun' : (execOp a.eval o).run P w = .ok (.value (.slice (some ⟨w.heap.size, 0, none⟩) m.toNat n.toNat)) (w.alloc (.cells (madeCells zv.cells (n.toNat * i.size)) e)) := by
    simp only [execOp, ho, ul, uc, Sem.run_bind, hrun, Result.andThen_ok, Sem.run_pure]
  exact ⟨zv, hzr G, hrun'⟩

theorem op_mkslice {ty e : TypeId} {l c : Operand} (ho : o.op = .makeSlice ty l c) (hty : P.underlying ty = some (.slice e)) {i : TypeInfo} (hi : P.info? e = some i)
    {z : List LV} (hz : zeroOf P e = some z) {l' c' : LX} (hl' : compX l = some l') (hc' : compX c = some c') {m n : Int} (hm : (l'.ev t).asInt = some m) (hn : (c'.ev t).asInt = some n)
    (hc : 0 ≤ m ∧ m ≤ n ∧ n * i.bytes ≤ 281474976710656 ∧ n ≤ maxLen ∧ z.length = i.size ∧ 0 < i.size) (h : WR G st w) (hx : XsR G t a o.op)
    (hv : (m = 0 ∧ 0 < n ∧ v = .sl [] st.length 0 ∧ st' = st ++ [.spare i.size 0]) ∨ (m = n ∧ v = .rs st.length 0 m.toNat ∧ st' = st ++ [.row (List.replicate m.toNat z)])) :
    OpTo P o a w (Good G st w v st') := by
  obtain ⟨zv, hzr, hrun'⟩ := run_mkslice (w := w) ho hty hi hz hl' hc' hm hn hc hx
  obtain ⟨c1, c2, c3, c4, c5, c6⟩ := hc
  rcases hv with ⟨rfl, hp, rfl, rfl⟩ | ⟨rfl, rfl, rfl⟩
  · obtain ⟨r1, r2⟩ := h.newSpare (madeCells zv.cells (n.toNat * i.size)) e i.size 0 n.toNat 0 (by rw [size_madeCells]; omega)
    refine opTo_value hrun' ⟨_, r1, ?_, r2⟩
    refine .sl (es := []) (size := i.size) ?_ (by simp) (by simp) ?_
    · exact VP.mk (es := []) (size := i.size) (by simp) (by omega) (by simp) (fun i j p hp => by simp [at2] at hp)
    · simp [Gh.addHist]
  · refine opTo_value hrun' ?_
    have hr := zeros_row hzr m.toNat (by omega)
    rw [c5] at hr
    have hrow := good_newRow (v := .rs st.length 0 m.toNat) (u := .slice (some ⟨w.heap.size, 0, none⟩) m.toNat m.toNat) h (List.replicate m.toNat z) i.size m.toNat (madeCells zv.cells (m.toNat * i.size)) e
      (size_madeCells _ _) (by simp) hr (by
        have hh := VL.rs (G := G.addLoc st.length (.row w.heap.size i.size m.toNat)) (o := st.length) (off := 0) (len := m.toNat) (cap := m.toNat) (blk := w.heap.size) (size := i.size) (n := m.toNat) (by simp [Gh.addLoc])
          (by omega) (Nat.le_refl _) (by omega)
        simpa using hh)
    exact hrow

/-! Maps. -/
def KK.desc (kk : KK) (d : TypeDesc) : Prop :=
  match kk with
  | .int => ∃ k, d = .int k
  | .str => d = .string
  | .bool => d = .bool

theorem keyOk_inv {kt : TypeId} {kk : KK} (h : keyOk P kt = some kk) : ∃ d, P.underlying kt = some d ∧ kk.desc d := by
  unfold keyOk at h
  split at h <;> cases h
  · exact ⟨_, ‹_›, _, rfl⟩
  · exact ⟨_, ‹_›, rfl⟩
  · exact ⟨_, ‹_›, rfl⟩

theorem run_checkKey {kt : TypeId} {kk : KK} {d : TypeDesc} (hd : P.underlying kt = some d) (hk : kk.desc d) (b : Bool) (u : Value) (w : World) : (Instr.checkKey b 10000 kt u).run P w = .ok () w := by
  rw [show (10000 : Nat) = 9999 + 1 from rfl, Instr.checkKey]
  rw [Sem.run_bind, run_underlying hd, Result.andThen_ok]
  cases kk
  · obtain ⟨k, rfl⟩ := hk; rfl
  · cases hk; rfl
  · cases hk; rfl

theorem ba_beq (x y : List UInt8) : ((⟨x.toArray⟩ : ByteArray) == ⟨y.toArray⟩) = (x == y) := by
  show (x.toArray == y.toArray) = (x == y)
  simp

theorem vp_scalar {F : Nat → Nat → Option Value} {kk : KK} {k j : PV} {u e : Value} (hk : kk.fits k = true) (h1 : VP F k u) (h2 : VP F j e) {b : Bool} (hp : pvEq k j = some b) {d : TypeDesc} (hd : kk.desc d) :
    Instr.sameNow d u e = some b ∧ (b = true → k = j ∧ e = u ∧ ∀ n, Instr.sameBits (n + 1) e u = true) := by
  cases kk <;> cases k <;> simp [KK.fits] at hk
  · cases h1
    cases j <;> simp [pvEq] at hp
    cases h2
    obtain ⟨rfl, rfl⟩ := hp
    obtain ⟨kd, rfl⟩ := hd
    refine ⟨by simp [Instr.sameNow], fun hb => ?_⟩
    simp at hb; subst hb
    exact ⟨rfl, rfl, fun n => by simp [Instr.sameBits, ba_beq]⟩
  · cases h1
    cases j <;> simp [pvEq] at hp
    cases h2
    subst hp
    cases hd
    refine ⟨by simp [Instr.sameNow, ba_beq], fun hb => ?_⟩
    simp at hb; subst hb
    exact ⟨rfl, rfl, fun n => by simp [Instr.sameBits, ba_beq]⟩
  · cases h1
    cases j <;> simp [pvEq] at hp
    cases h2
    subst hp
    cases hd
    refine ⟨by simp [Instr.sameNow], fun hb => ?_⟩
    simp at hb; subst hb
    exact ⟨rfl, rfl, fun n => by simp [Instr.sameBits, ba_beq]⟩

theorem find_sound {kk : KK} {k : PV} {u : Value} {d : TypeDesc} (hk : kk.fits k = true) (hd : kk.desc d) : ∀ {kv : List (PV × LV)} {es : List MapEntry} (i0 : Nat),
    VP G.F k u → es.length = kv.length → (∀ (i : Nat) j v, kv[i]? = some (j, v) → ∃ e, es[i]? = some e ∧ VP G.F j e.key ∧ VL G v e.val) →
    (∀ r, mfind k kv = some r → (∃ j v e, r = some v ∧ kv[j]? = some (k, v) ∧ es[j]? = some e ∧ Instr.findNow d u es i0 = some (some (i0 + j, e.val)) ∧ VL G v e.val) ∨ (r = none ∧ Instr.findNow d u es i0 = some none)) ∧
    (∀ v' kv', mset k v' kv = some kv' → (∃ j v e, kv' = kv.set j (k, v') ∧ kv[j]? = some (k, v) ∧ es[j]? = some e ∧ e.key = u ∧ Instr.findNow d u es i0 = some (some (i0 + j, e.val)) ∧ ∀ n, Instr.sameBits (n + 1) e.key u = true) ∨
      (kv' = kv ++ [(k, v')] ∧ Instr.findNow d u es i0 = some none)) ∧
    (∀ kv', mdel k kv = some kv' → (∃ j e, kv' = kv.eraseIdx j ∧ es[j]? = some e ∧ j < kv.length ∧ Instr.findNow d u es i0 = some (some (i0 + j, e.val))) ∨ (kv' = kv ∧ Instr.findNow d u es i0 = some none))
  | [], es, i0, hu, hl, he => by
    obtain rfl : es = [] := by simpa using hl
    refine ⟨fun r hr => ?_, fun v' kv' hr => ?_, fun kv' hr => ?_⟩
    · simp only [mfind] at hr; cases hr; exact .inr ⟨rfl, rfl⟩
    · simp only [mset] at hr; cases hr; exact .inr ⟨rfl, rfl⟩
    · simp only [mdel] at hr; cases hr; exact .inr ⟨rfl, rfl⟩
  | (j, v) :: kv, es, i0, hu, hl, he => by
    obtain ⟨e, h0, h1, h2⟩ := he 0 j v rfl
    cases es with
    | nil => simp at h0
    | cons e' es =>
      simp at h0; subst h0
      obtain ⟨r1, r2, r3⟩ := find_sound (kk := kk) hk hd (kv := kv) (es := es) (i0 + 1) hu (by simpa using hl) (fun i j v hi => by simpa using he (i + 1) j v (by simpa using hi))
      cases hp : pvEq k j with
      | none => exact ⟨fun r hr => by simp [mfind, hp] at hr, fun v' kv' hr => by simp [mset, hp] at hr, fun kv' hr => by simp [mdel, hp] at hr⟩
      | some b =>
        obtain ⟨s1, s2⟩ := vp_scalar hk hu h1 hp hd
        cases b with
        | true =>
          obtain ⟨rfl, hek, hsb⟩ := s2 rfl
          have hf : Instr.findNow d u (e' :: es) i0 = some (some (i0, e'.val)) := by simp [Instr.findNow, s1]
          refine ⟨fun r hr => ?_, fun v' kv' hr => ?_, fun kv' hr => ?_⟩
          · simp [mfind, hp] at hr; subst hr
            exact .inl ⟨0, v, e', rfl, rfl, rfl, hf, h2⟩
          · simp [mset, hp] at hr; subst hr
            exact .inl ⟨0, v, e', rfl, rfl, rfl, hek, hf, hsb⟩
          · simp [mdel, hp] at hr; subst hr
            exact .inl ⟨0, e', rfl, rfl, by simp, hf⟩
        | false =>
          have hf : Instr.findNow d u (e' :: es) i0 = Instr.findNow d u es (i0 + 1) := by simp [Instr.findNow, s1]
          rw [hf]
          refine ⟨fun r hr => ?_, fun v' kv' hr => ?_, fun kv' hr => ?_⟩
          · simp only [mfind, hp] at hr
            rcases r1 r hr with ⟨q, x, e, a1, a2, a3, a4, a5⟩ | ⟨a1, a2⟩
            · exact .inl ⟨q + 1, x, e, a1, by simpa using a2, by simpa using a3, by rw [a4]; congr 3; omega, a5⟩
            · exact .inr ⟨a1, a2⟩
          · simp only [mset, hp] at hr
            split at hr
            · rename_i l hl'
              cases hr
              rcases r2 v' l hl' with ⟨q, x, e, a1, a2, a3, a4, a5, a6⟩ | ⟨a1, a2⟩
              · exact .inl ⟨q + 1, x, e, by rw [a1]; rfl, by simpa using a2, by simpa using a3, a4, by rw [a5]; congr 3; omega, a6⟩
              · exact .inr ⟨by rw [a1]; rfl, a2⟩
            · cases hr
          · simp only [mdel, hp] at hr
            split at hr
            · rename_i l hl'
              cases hr
              rcases r3 l hl' with ⟨q, e, a1, a2, a3, a4⟩ | ⟨a1, a2⟩
              · exact .inl ⟨q + 1, e, by rw [a1]; rfl, by simpa using a2, by simpa using a3, by rw [a4]; congr 3; omega⟩
              · exact .inr ⟨by rw [a1], a2⟩
            · cases hr

theorem run_findKey {kt : TypeId} {d : TypeDesc} (hd : P.underlying kt = some d) {u : Value} {es : List MapEntry} {r : Option (Nat × Value)} (h : Instr.findNow d u es 0 = some r) (w : World) :
    (Instr.findKey kt u es).run P w = .ok r w := by
  simp [Instr.findKey, run_underlying hd, h]

theorem mapOk_list {es : Array MapEntry} {kv : List (PV × LV)} (h : mapOk G es kv) : es.toList.length = kv.length ∧ ∀ (i : Nat) j v, kv[i]? = some (j, v) → ∃ e, es.toList[i]? = some e ∧ VP G.F j e.key ∧ VL G v e.val :=
  ⟨by simpa using h.1, fun i j v hi => by simpa using h.2 i j v hi⟩

theorem op_lookup {ty kt e : TypeId} {x i : Operand} {ok : Bool} (ho : o.op = .lookup ty x i ok) (hty : P.underlying ty = some (.map kt e)) {inf : TypeInfo} (hi : P.info? e = some inf) {z : Value} (hz : inf.zero = some z)
    {zv : LV} (hzv : constLV z = some zv) {kk : KK} (hkk : keyOk P kt = some kk) {x' i' : LX} (hx' : compX x = some x') (hi' : compX i = some i') {k : PV} (hk : (i'.ev t).toPV = some k) (hf : kk.fits k = true)
    {r : Option LV} (hr : (x'.ev t = .p .nilm ∧ r = none) ∨ ∃ q kv, x'.ev t = .mp q ∧ st[q]? = some (.map kv) ∧ mfind k kv = some r)
    (h : WR G st w) (hx : XsR G t a o.op) : OpTo P o a w (Good G st w (if ok then .tup [r.getD zv, .p (.bool r.isSome)] else r.getD zv) st) := by
  have h1 := hx x (by rw [ho]; simp [Op.operands]) x' hx'
  have h2 := toPV_sound hk (hx i (by rw [ho]; simp [Op.operands]) i' hi')
  obtain ⟨d, hd, hkd⟩ := keyOk_inv hkk
  have hzr : (zeroValue e).run P w = .ok z w := run_zeroValue hi hz w
  have fin : ∀ (u : Value), VL G (r.getD zv) u → (Instr.lookup ty (a.eval x) (a.eval i) ok).run P w = .ok (if ok then .tuple #[u, .bool r.isSome] else u) w → OpTo P o a w (Good G st w (if ok then .tup [r.getD zv, .p (.bool r.isSome)] else r.getD zv) st) := by
    intro u hu hrun
    refine opTo_value (u := if ok then .tuple #[u, .bool r.isSome] else u) (w' := w) (by simp only [execOp, ho, Sem.run_bind, hrun, Result.andThen_ok, Sem.run_pure]) (.same h ?_)
    cases ok
    · exact hu
    · refine .tup _ rfl ?_
      intro n y hy
      match n, hy with
      | 0, hy => simp at hy; subst hy; exact hu
      | 1, hy => simp at hy; subst hy; exact .p (.bool _)
  rcases hr with ⟨e1, rfl⟩ | ⟨q, kv, e1, hst, hm⟩
  · rw [e1] at h1
    refine fin z (constLV_sound G hzv) ?_
    have hfk : (Instr.findKey kt (a.eval i) []).run P w = .ok none w := run_findKey hd rfl w
    simp [Instr.lookup, run_underlying hty, h1.nilm_inv, run_checkKey hd hkd, hfk, hzr]
  · rw [e1] at h1
    obtain ⟨blk, hl, hu⟩ := h1.mp_inv
    obtain ⟨blk', e3, es, c, hb, hmo⟩ := h.map q kv hst _ hl
    cases e3
    obtain ⟨m1, m2⟩ := mapOk_list hmo
    have hfs := (find_sound (kk := kk) hf hkd 0 h2 m1 m2).1 r hm
    rcases hfs with ⟨j, v, e', rfl, _, _, hfn, hvl⟩ | ⟨rfl, hfn⟩
    · refine fin e'.val hvl ?_
      have hfk := run_findKey (P := P) hd hfn w
      simp [Instr.lookup, run_underlying hty, hu, getObj, Sem.run, hb, run_checkKey hd hkd, hfk]
    · refine fin z (constLV_sound G hzv) ?_
      have hfk := run_findKey (P := P) hd hfn w
      simp [Instr.lookup, run_underlying hty, hu, getObj, Sem.run, hb, run_checkKey hd hkd, hfk, hzr]

theorem op_mapUpdate {ty kt e : TypeId} {m k x : Operand} (ho : o.op = .mapUpdate ty m k x ∨ o.op = .insert ty m k x) (hty : P.underlying ty = some (.map kt e))
    {kk : KK} (hkk : keyOk P kt = some kk) {m' k' x' : LX} (hm' : compX m = some m') (hk' : compX k = some k') (hx' : compX x = some x') {q : Nat} (hq : m'.ev t = .mp q) {kp : PV} (hk : (k'.ev t).toPV = some kp) (hf : kk.fits kp = true)
    {kv kv' : List (PV × LV)} (hst : st[q]? = some (.map kv)) (hset : mset kp (x'.ev t) kv = some kv')
    (h : WR G st w) (hx : XsR G t a o.op) : OpTo P o a w (Good G st w (.tup []) (st.set q (.map kv'))) := by
  have h1 := hx m (by rcases ho with ho | ho <;> rw [ho] <;> simp [Op.operands]) m' hm'
  have h2 := toPV_sound hk (hx k (by rcases ho with ho | ho <;> rw [ho] <;> simp [Op.operands]) k' hk')
  have h3 := hx x (by rcases ho with ho | ho <;> rw [ho] <;> simp [Op.operands]) x' hx'
  obtain ⟨d, hd, hkd⟩ := keyOk_inv hkk
  rw [hq] at h1
  obtain ⟨blk, hl, hu⟩ := h1.mp_inv
  obtain ⟨blk', e3, es, c, hb, hmo⟩ := h.map q kv hst _ hl
  cases e3
  obtain ⟨m1, m2⟩ := mapOk_list hmo
  have hlt := lt_of_heap hb
  have fin : ∀ (es' : Array MapEntry) (c' : Nat), mapOk G es' kv' → (Instr.mapUpdate ty (a.eval m) (a.eval k) (a.eval x)).run P w = .ok () { w with heap := w.heap.setIfInBounds blk (.map es' c') } →
      OpTo P o a w (Good G st w (.tup []) (st.set q (.map kv'))) := by
    intro es' c' hmk hrun
    obtain ⟨r1, r2⟩ := h.setObj hst hl (x' := .map kv') (ob := .map es' c') (.inr (.inl ⟨kv, kv', es', c', rfl, rfl, rfl, rfl, hmk⟩)) (sameBut_set w blk (.map es' c')) (by simp [hlt])
    refine opTo_skip ?_ ⟨G, r1, .unit G, r2⟩
    rcases ho with ho | ho <;> simp only [execOp, ho, Sem.run_bind, hrun, Result.andThen_ok, Sem.run_pure]
  have hfs := (find_sound (kk := kk) hf hkd 0 h2 m1 m2).2.1 _ _ hset
  rcases hfs with ⟨j, v, e', rfl, hj1, hj2, hek, hfn, hsb⟩ | ⟨rfl, hfn⟩
  · have hfk := run_findKey (P := P) hd hfn w
    have hj2' : es[j]? = some e' := by simpa using hj2
    have hjl := (Array.getElem?_eq_some_iff.1 hj2').1
    refine fin (es.modify j fun e => { e with key := a.eval k, val := a.eval x }) c ?_ ?_
    · refine ⟨by simp [hmo.1], fun i kq vq hi => ?_⟩
      by_cases hij : i = j
      · subst hij
        rw [List.getElem?_set_self (by rw [← hmo.1]; exact hjl)] at hi
        cases hi
        exact ⟨_, by rw [Array.getElem?_modify, if_pos rfl, hj2']; rfl, h2, h3⟩
      · rw [List.getElem?_set_ne (Ne.symm hij)] at hi
        obtain ⟨e2, a1, a2, a3⟩ := hmo.2 i kq vq hi
        exact ⟨e2, by rw [Array.getElem?_modify, if_neg (Ne.symm hij)]; exact a1, a2, a3⟩
    · have hst' : (Instr.keyThatStays (((es[0 + j]?).map (·.key)).getD (a.eval k)) (a.eval k)).run P w = .ok (a.eval k) w := by
        rw [Nat.zero_add, hj2']
        have := hsb 9999
        simp only [Option.map_some, Option.getD_some, Instr.keyThatStays]
        rw [if_pos this]; rfl
      rw [Nat.zero_add] at hfk hst'
      simp only [Instr.mapUpdate, Sem.run_bind, run_underlying hty, hu, Result.andThen_ok, getObj, Sem.run, hb, run_checkKey hd hkd, hfk, hst', setObj]
  · have hfk := run_findKey (P := P) hd hfn w
    refine fin (es.push { key := a.eval k, val := a.eval x, born := c }) (c + 1) ?_ ?_
    · refine ⟨by simp [hmo.1], fun i kq vq hi => ?_⟩
      rcases get_snoc_cases hi with ⟨hlt', hi⟩ | ⟨rfl, e2⟩
      · obtain ⟨e2, a1, a2, a3⟩ := hmo.2 i kq vq hi
        exact ⟨e2, by rw [Array.getElem?_push, if_neg (by rw [hmo.1]; omega)]; exact a1, a2, a3⟩
      · cases e2
        exact ⟨{ key := a.eval k, val := a.eval x, born := c }, by rw [← hmo.1]; simp, h2, h3⟩
    · simp only [Instr.mapUpdate, Sem.run_bind, run_underlying hty, hu, Result.andThen_ok, getObj, Sem.run, hb, run_checkKey hd hkd, hfk, setObj]

theorem op_delete {ty u kt e : TypeId} {m k : Operand} (ho : o.op = .call { callee := .builtin .delete, args := #[m, k], argTypes := #[ty, u] }) (hty : P.underlying ty = some (.map kt e))
    {kk : KK} (hkk : keyOk P kt = some kk) {m' k' : LX} (hm' : compX m = some m') (hk' : compX k = some k') {q : Nat} (hq : m'.ev t = .mp q) {kp : PV} (hk : (k'.ev t).toPV = some kp) (hf : kk.fits kp = true)
    {kv kv' : List (PV × LV)} (hst : st[q]? = some (.map kv)) (hset : mdel kp kv = some kv')
    (h : WR G st w) (hx : XsR G t a o.op) : OpTo P o a w (Good G st w (.tup []) (st.set q (.map kv'))) := by
  have h1 := hx m (by rw [ho]; simp [Op.operands, Call.operands]) m' hm'
  have h2 := toPV_sound hk (hx k (by rw [ho]; simp [Op.operands, Call.operands]) k' hk')
  obtain ⟨d, hd, hkd⟩ := keyOk_inv hkk
  rw [hq] at h1
  obtain ⟨blk, hl, hu⟩ := h1.mp_inv
  obtain ⟨blk', e3, es, c, hb, hmo⟩ := h.map q kv hst _ hl
  cases e3
  obtain ⟨m1, m2⟩ := mapOk_list hmo
  have hlt := lt_of_heap hb
  have fin : ∀ (es' : Array MapEntry) (c' : Nat), mapOk G es' kv' → (Builtin.delete_ #[ty, u] o.type #[a.eval m, a.eval k]).run P w = .ok (.tuple #[]) { w with heap := w.heap.setIfInBounds blk (.map es' c') } →
      OpTo P o a w (Good G st w (.tup []) (st.set q (.map kv'))) := by
    intro es' c' hmk hrun
    obtain ⟨r1, r2⟩ := h.setObj hst hl (x' := .map kv') (ob := .map es' c') (.inr (.inl ⟨kv, kv', es', c', rfl, rfl, rfl, rfl, hmk⟩)) (sameBut_set w blk (.map es' c')) (by simp [hlt])
    refine opTo_value (u := .tuple #[]) ?_ ⟨G, r1, .unit G, r2⟩
    simp [execOp, ho, resolve, invoke, builtin, hrun]
  have hfs := (find_sound (kk := kk) hf hkd 0 h2 m1 m2).2.2 _ hset
  rcases hfs with ⟨j, e', rfl, hj2, hjl, hfn⟩ | ⟨rfl, hfn⟩
  · have hfk := run_findKey (P := P) hd hfn w
    have hj2' : es[j]? = some e' := by simpa using hj2
    have hjl' := (Array.getElem?_eq_some_iff.1 hj2').1
    refine fin (es.eraseIdxIfInBounds j) c ?_ ?_
    · have hel : (es.eraseIdxIfInBounds j).toList = es.toList.eraseIdx j := by simp [Array.eraseIdxIfInBounds, hjl']
      refine ⟨?_, fun i kq vq hi => ?_⟩
      · rw [← Array.length_toList, hel, List.length_eraseIdx, List.length_eraseIdx]
        simp [hmo.1]
      · rw [← Array.getElem?_toList, hel]
        rw [List.getElem?_eraseIdx] at hi ⊢
        split at hi
        · rename_i hij
          obtain ⟨e2, a1, a2, a3⟩ := hmo.2 i kq vq hi
          exact ⟨e2, by rw [if_pos hij]; simpa using a1, a2, a3⟩
        · rename_i hij
          obtain ⟨e2, a1, a2, a3⟩ := hmo.2 (i + 1) kq vq hi
          exact ⟨e2, by rw [if_neg hij]; simpa using a1, a2, a3⟩
    · rw [Nat.zero_add] at hfk
      simp only [Builtin.delete_, List.getElem?_toArray, List.getElem?_cons_zero, List.getElem?_cons_succ, Sem.run_bind, run_underlying hty, hu, Result.andThen_ok, getObj, Sem.run, hb, run_checkKey hd hkd, hfk, setObj, Sem.run_pure]
  · have hfk := run_findKey (P := P) hd hfn w
    refine fin es c hmo ?_
    simp only [Builtin.delete_, List.getElem?_toArray, List.getElem?_cons_zero, List.getElem?_cons_succ, Sem.run_bind, run_underlying hty, hu, Result.andThen_ok, getObj, Sem.run, hb, run_checkKey hd hkd, hfk, setObj, Sem.run_pure]

end ops
end Go.LS
