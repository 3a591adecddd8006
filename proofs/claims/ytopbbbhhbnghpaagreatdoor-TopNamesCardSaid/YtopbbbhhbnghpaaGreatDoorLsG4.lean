/- A small semantics of loaded Go code that the kernel can run, part 4. -/
import Derived.Test.YtopbbbhhbnghpaaGreatDoorLsG3
import Derived.Laws.StructEq
import Derived.LoopN
set_option linter.unusedVariables false
set_option linter.unusedSimpArgs false
namespace Go.LS
section ops
variable {P : Program} {G : Gh} {st st' : List LObj} {w : World} {t : List LV} {a : Act} {o : Oper} {v : LV}
theorem freeze_same (w : World) {b : Nat} {arr : Array Value} {e : TypeId} {fz : Nat × Nat} (hb : w.heap[b]? = some (.cells arr e fz)) (off n : Nat) (hn : n ≠ 0) :
    SameBut b w (w.freeze ⟨b, off, none⟩ n) ∧ ∃ fz', (w.freeze ⟨b, off, none⟩ n).heap[b]? = some (.cells arr e fz') := by
  unfold World.freeze
  rw [if_neg hn]
  refine ⟨⟨by simp, fun c hc => ?_, rfl, rfl, rfl⟩, ?_⟩
  · simp only [Array.getElem?_modify]
    rw [if_neg (Ne.symm hc)]
  · simp only [Array.getElem?_modify, if_true, hb]
    exact ⟨_, rfl⟩
theorem op_retire {src dst el s0 : TypeId} {x : Operand} (ho : o.op = .convert src dst x) (hsd : src = dst) (hs0 : P.underlying src = some (.slice s0)) (hd : P.underlying dst = some (.slice el)) {y : LX} (hy : compX x = some y)
    (he : P.underlying el = some (.int .u8)) {q off len : Nat} (hv : y.ev t = .rs q off len) {es : List (List LV)} (hs : st[q]? = some (.row es)) (hl : off + len ≤ es.length) {qs : List (List PV)}
    (hq : rowPV ((es.drop off).take len) = some qs) (h : WR G st w) (hx : XsR G t a o.op) : OpTo P o a w (Good G st w (.p (.sl qs)) (st.set q .dead)) := by
  have h1 := hx x (by rw [ho]; simp [Op.operands]) y hy
  rw [hv] at h1
  obtain ⟨blk, size, n, cap, hloc, hu, hm, hlc, hnn⟩ := h1.rs_inv
  obtain ⟨blk', size', n', e', arr, ty, hb, hz, hen, hr⟩ := h.row q es hs _ hloc
  cases e'
  obtain ⟨f1, fz', f2⟩ := freeze_same w hb arr.size 1 (by decide)
  obtain ⟨r1, r2⟩ := h.retire hs hloc hb f1 f2
  have hrun : (execOp a.eval o).run P w = .ok (.value (.slice (some ⟨blk, off * size, none⟩) len cap)) (w.freeze ⟨blk, arr.size, none⟩ 1) := by
    have hsh : w.shape? blk = some (ty, arr.size) := by simp [World.shape?, hb]
    subst hsd
    simp [execOp, ho, hu, convert, run_underlying hd, run_underlying he, markStringish, hsh]
  refine opTo_value hrun ⟨_, r1, .p ?_, r2⟩
  obtain ⟨q1, q2⟩ := rowPV_get hq
  have hlen : qs.length = len := by rw [q1]; simp; omega
  have hsz : ∀ e ∈ qs, e.length = size := rowPV_sized hq (fun e he => hr.1 e (List.mem_of_mem_drop (List.mem_of_mem_take he)))
  rw [← hlen]
  refine VP.mk (size := size) (by omega) hm hsz ?_
  intro i j p hp
  obtain ⟨c, hc1, hc2⟩ := q2 i j p hp
  have hc3 : at2 es (off + i) j = some c := by
    unfold at2 at hc1 ⊢
    rw [List.getElem?_take] at hc1
    split at hc1
    · rw [List.getElem?_drop] at hc1; exact hc1
    · simp at hc1
  obtain ⟨u, hu1, hu2, _⟩ := hr.2 (off + i) j c hc3
  refine ⟨u, ?_, (toPV_sound hc2 hu2).mono (Gh.le_addF ..).F⟩
  simp only [Gh.addF]
  have hF : G.F blk (off * size + i * size + j) = none := h.ownF q blk (by unfold Owns; rw [hs]; exact ⟨size, n, hloc⟩) (by rintro ⟨a, b, e⟩; rw [hs] at e; cases e) _
  rw [hF]
  simp only [if_true]
  rw [← hu1]
  congr 1
  rw [Nat.add_mul]
theorem pvEq_run {F : Nat → Nat → Option Value} {ft : TypeId} {kk : KK} {dd : TypeDesc} (hd : P.underlying ft = some dd) (hk : kk.desc dd) {a b : PV} (hf : kk.fits a = true) {u z : Value} {r : Bool} (hr : pvEq a b = some r)
    (ha : VP F a u) (hb : VP F b z) (d : Nat) (w : World) : (Op.equalIn (d + 1) ft u z).run P w = .ok r w ∧ (part ft #[u] 0).run P w = .ok u w := by
  have hna : ∀ v : Value, (part ft #[v] 0).run P w = .ok v w := by
    intro v
    have : aggB dd = false := by
      cases kk <;> simp only [KK.desc] at hk
      · obtain ⟨k, rfl⟩ := hk; rfl
      · subst hk; rfl
      · subst hk; rfl
    cases dd <;> simp [aggB] at this <;> simp [part, isAgg, run_underlying hd]
  refine ⟨?_, hna u⟩
  cases kk <;> cases a <;> simp only [KK.fits, Bool.false_eq_true] at hf <;> cases b <;> simp only [pvEq] at hr <;> try (cases hr; done)
  · obtain ⟨k, rfl⟩ := hk
    split at hr <;> cases hr
    subst_vars
    cases ha; cases hb
    exact run_equalIn_int w d ft _ k _ _ hd
  · simp only [KK.desc] at hk; subst hk
    cases hr
    cases ha; cases hb
    rw [run_equalIn_string w d ft _ _ hd]
    simp [ByteArray.toList_eq]
  · simp only [KK.desc] at hk; subst hk
    cases hr
    cases ha; cases hb
    exact run_equalIn_bool' w d ft _ _ hd
theorem part_at {ft : TypeId} {kk : KK} {dd : TypeDesc} (hd : P.underlying ft = some dd) (hk : kk.desc dd) {arr : Array Value} {off : Nat} {u : Value} (h : arr[off]? = some u) (w : World) : (part ft arr off).run P w = .ok u w := by
  have : aggB dd = false := by
    cases kk <;> simp only [KK.desc] at hk
    · obtain ⟨k, rfl⟩ := hk; rfl
    · subst hk; rfl
    · subst hk; rfl
  cases dd <;> simp [aggB] at this <;> simp [part, isAgg, run_underlying hd, h]
theorem eqFields_run {xs ys : Array Value} {cx cy : List LV} (hx : CellsR G cx xs) (hy : CellsR G cy ys) (d : Nat) (w : World) : ∀ {fs : List Field} {l : List (Nat × KK)} {r : Bool}, eqFs P fs = some l → eqCells cx cy l = some r →
    (Op.eqFields (d + 1) xs ys fs).run P w = .ok r w
  | [], l, r, hl, hr => by
    simp only [eqFs] at hl; cases hl
    simp only [eqCells] at hr; cases hr
    simp [Op.eqFields]
  | f :: fs, l, r, hl, hr => by
    simp only [eqFs] at hl
    split at hl
    · rename_i kk l' hkk hl'
      split at hl
      · cases hl
      · rename_i hn
        cases hl
        simp only [eqCells] at hr
        split at hr
        · rename_i a b ea eb
          split at hr
          · rename_i hf
            split at hr
            · rename_i p q hp hq
              cases hr
              obtain ⟨dd, hd, hk⟩ := keyOk_inv hkk
              obtain ⟨u, hu, hvu⟩ : ∃ u, xs[f.offset]? = some u ∧ VP G.F a u := by
                have hlt : f.offset < xs.size := by rw [hx.1]; exact (List.getElem?_eq_some_iff.1 ea).1
                obtain ⟨u, h1, h2, _⟩ := hx.2 _ _ ea
                exact ⟨u, h1, by cases h2 with | p h => exact h⟩
              obtain ⟨z, hz, hvz⟩ : ∃ u, ys[f.offset]? = some u ∧ VP G.F b u := by
                obtain ⟨u, h1, h2, _⟩ := hy.2 _ _ eb
                exact ⟨u, h1, by cases h2 with | p h => exact h⟩
              have hne : f.name ≠ "_" := by simpa using hn
              have hrest := eqFields_run hx hy d w hl' hq
              have he := (pvEq_run (P := P) hd hk hf hp hvu hvz d w).1
              simp only [Op.eqFields, Sem.run_ite, if_pos hne, Sem.run_bind, part_at hd hk hu, part_at hd hk hz, Result.andThen_ok, he]
              cases p
              · simp
              · simp [hrest]
            · cases hr
          · cases hr
        · cases hr
    · cases hl
theorem op_seq {neg : Bool} {ty ty' : TypeId} {x y : Operand} (ho : o.op = .binOp (if neg then .neq else .eql) ty x y ty') {fs : Array Field} (hty : P.underlying ty = some (.struct fs)) {l : List (Nat × KK)} (hl : flatEq P ty fs = some l)
    {x' y' : LX} (hx' : compX x = some x') (hy' : compX y = some y') {cx cy : List LV} (hvx : x'.ev t = .agg cx) (hvy : y'.ev t = .agg cy) {b : Bool} (hb : eqCells cx cy l = some b) (h : WR G st w) (hx : XsR G t a o.op) :
    OpTo P o a w (Good G st w (.p (.bool (b != neg))) st) := by
  have h1 := hx x (by rw [ho]; simp [Op.operands]) x' hx'
  have h2 := hx y (by rw [ho]; simp [Op.operands]) y' hy'
  rw [hvx] at h1
  rw [hvy] at h2
  obtain ⟨xs, u1, c1⟩ := h1.agg_inv
  obtain ⟨ys, u2, c2⟩ := h2.agg_inv
  unfold flatEq at hl
  split at hl
  · rename_i hc
    simp only [Bool.and_eq_true, beq_iff_eq] at hc
    have hfs : P.fieldsOf ty = fs := by simp [Program.fieldsOf, hty]
    have hrun := run_equalIn_struct w 9999 ty xs ys (by rw [hfs]; exact hty) hc.2
    rw [hfs, eqFields_run c1 c2 9998 w hl hb] at hrun
    refine opTo_value (u := .bool (b != neg)) (w' := w) ?_ (.same h (.p (.bool _)))
    cases neg
    · simp only [execOp, ho, u1, u2, Bool.false_eq_true, if_false, Sem.run_bind, run_eqGuard_agg w _ ty x y xs ys hc.1, Result.andThen_ok, run_eql_struct w, hrun, Sem.run_pure]
      simp
    · simp only [execOp, ho, u1, u2, if_true, Sem.run_bind, run_eqGuard_agg w _ ty x y xs ys hc.1, Result.andThen_ok, run_neq_struct w, hrun, Sem.run_pure]
      simp
  · cases hl
theorem op_fnm {f : FuncId} {first captured : Array Operand} (ho : o.op = .makeFunc (.func f) first captured) {fs cs : List LX} (hf : compXs first.toList = some fs) (hc : compXs captured.toList = some cs)
    (h : WR G st w) (hx : XsR G t a o.op) : OpTo P o a w (Good G st w (.fn (.func f) (fs.map (LX.ev t)) (cs.map (LX.ev t))) st) := by
  have hA := argsR_of (G := G) (t := t) (a := a) (l := captured.toList) (fun x hm y hy => hx x (by rw [ho]; simp only [Op.operands, Array.mem_append]; exact .inr (by simpa using hm)) y hy) hc
  have hB := argsR_of (G := G) (t := t) (a := a) (l := first.toList) (fun x hm y hy => hx x (by rw [ho]; simp only [Op.operands, Array.mem_append]; exact .inl (by simpa using hm)) y hy) hf
  refine opTo_value (u := .func (.func f) (first.map a.eval) (captured.map a.eval)) (w' := w) ?_ (.same h ?_)
  · simp [execOp, ho, Instr.makeFunc]
  · refine .fn _ _ _ (by have := hB.1; simpa using this) (by have := hA.1; simpa using this) ?_ ?_
    · intro i x hi
      have := hB.2 i x hi
      simpa using this
    · intro i x hi
      have := hA.2 i x hi
      simpa using this
theorem op_clear {ty e : TypeId} {x : Operand} (ho : o.op = .call { callee := .builtin .clear, args := #[x], argTypes := #[ty] }) (hty : P.underlying ty = some (.slice e)) {y : LX} (hy : compX x = some y)
    {z : List LV} (hz : zeroOf P e = some z) {q off len : Nat} (hv : y.ev t = .rs q off len) (h0 : len ≠ 0) {es : List (List LV)} (hs : st[q]? = some (.row es)) (hl : off + len ≤ es.length)
    (hall : es.all (fun e => e.length == z.length) = true) (hzp : 0 < z.length) (h : WR G st w) (hx : XsR G t a o.op) :
    OpTo P o a w (Good G st w (.tup []) (st.set q (.row (es.take off ++ List.replicate len z ++ es.drop (off + len))))) := by
  have h1 := hx x (by rw [ho]; simp [Op.operands, Call.operands]) y hy
  rw [hv] at h1
  obtain ⟨blk, size, n, cap, hloc, hu, hm, hlc, hnn⟩ := h1.rs_inv
  obtain ⟨blk', size', n', e', arr, ty', hb, hsz, hen, hr⟩ := h.row q es hs _ hloc
  cases e'
  obtain ⟨i, zv, hi, hzv, hzr⟩ := zeroOf_inv hz
  have hsz2 : z.length = size := by
    cases es with
    | nil => simp at hl; omega
    | cons e0 r =>
      have h2 := hr.1 e0 (List.mem_cons_self ..)
      have h3 := List.all_eq_true.1 hall e0 (List.mem_cons_self ..)
      simp at h3
      omega
  have hzs : zv.cells.size = z.length := (hzr G).1
  have hrz := zeros_row (hzr G) len hzp
  have hnew : Builtin.zeroCells zv.cells len = madeCells zv.cells (len * z.length) := by simp [Builtin.zeroCells, madeCells, hzs]
  generalize hnews : madeCells zv.cells (len * z.length) = news at hrz hnew
  have hnl : news.toList.length = len * size := by rw [← hnews, ← hsz2]; simp [size_madeCells]
  have h1c : ∀ u ∈ news.toList, u.oneCell' = true := by
    intro u hu'
    obtain ⟨j, hj⟩ := List.getElem?_of_mem hu'
    have hjl : j < len * size := by have := (List.getElem?_eq_some_iff.1 hj).1; omega
    have hp : 0 < size := by omega
    have hd : j / size < len := by rw [Nat.div_lt_iff_lt_mul hp]; exact hjl
    have hmd : j % size < z.length := by rw [hsz2]; exact Nat.mod_lt _ hp
    obtain ⟨u2, a1, _, a3⟩ := hrz.2 (j / size) (j % size) z[j % size] (by simp [at2, hd])
    have e2 : j / size * z.length + j % size = j := by rw [hsz2, Nat.mul_comm]; exact Nat.div_add_mod j size
    rw [e2] at a1
    simp only [Array.getElem?_toList] at hj
    rw [a1] at hj; cases hj; exact a3
  have hfit : off * size + len * size ≤ arr.size := by
    rw [hsz, ← Nat.add_mul]
    exact Nat.mul_le_mul_right _ (by omega)
  have hrun := run_storeCells_at P blk (off * size) ty' news.toList 0 arr w hb (by rw [hnl]; simpa using hfit) h1c
  simp only [Nat.add_zero] at hrun
  generalize hcur : (arr.toList.take (off * size) ++ news.toList ++ arr.toList.drop (off * size + news.toList.length)) = cur at hrun
  have hget : ∀ j, cur[j]? = if off * size ≤ j ∧ j < off * size + news.toList.length then news.toList[j - off * size]? else arr.toList[j]? := fun j => by
    rw [← hcur]; exact take_drop_get arr.toList news.toList (off * size) j (by rw [hnl]; simpa using hfit)
  have hcl : cur.length = arr.size := by rw [← hcur]; simp only [List.length_append, List.length_take, List.length_drop, hnl, Array.length_toList]; omega
  have hgetE : ∀ i, (es.take off ++ List.replicate len z ++ es.drop (off + len))[i]? = if off ≤ i ∧ i < off + len then (List.replicate len z)[i - off]? else es[i]? := fun i => by
    have := take_drop_get es (List.replicate len z) off i (by simpa using hl)
    simpa using this
  have hrow : rowOk G cur.toArray (es.take off ++ List.replicate len z ++ es.drop (off + len)) size := by
    refine ⟨fun e hem => ?_, fun i' j' c hc' => ?_⟩
    · simp only [List.mem_append] at hem
      rcases hem with (hem | hem) | hem
      · exact hr.1 e (List.mem_of_mem_take hem)
      · rw [List.eq_of_mem_replicate hem]; exact hsz2
      · exact hr.1 e (List.mem_of_mem_drop hem)
    · unfold at2 at hc'
      rw [hgetE] at hc'
      split at hc'
      · rename_i hi'
        have hj' : j' < size := by
          rw [List.getElem?_replicate] at hc'
          split at hc'
          · simp only [Option.bind_some] at hc'
            have := (List.getElem?_eq_some_iff.1 hc').1
            omega
          · simp at hc'
        obtain ⟨u, a1, a2, a3⟩ := hrz.2 (i' - off) j' c hc'
        refine ⟨u, ?_, a2, a3⟩
        simp only [List.getElem?_toArray]
        have b1 : off * size ≤ i' * size := Nat.mul_le_mul_right _ hi'.1
        have b2 : (i' + 1) * size ≤ (off + len) * size := Nat.mul_le_mul_right _ (by omega)
        rw [Nat.add_mul, Nat.add_mul] at b2
        rw [hget, if_pos (by rw [hnl]; omega)]
        simp only [Array.getElem?_toList]
        rw [← a1]; congr 1
        rw [hsz2, Nat.sub_mul]; omega
      · rename_i hi'
        obtain ⟨u, a1, a2, a3⟩ := hr.2 i' j' c hc'
        refine ⟨u, ?_, a2, a3⟩
        have hj' : j' < size := by
          cases hq : es[i']? with
          | none => simp [hq] at hc'
          | some e' =>
            simp [hq] at hc'
            have := hr.1 e' (List.mem_of_getElem? hq)
            have := (List.getElem?_eq_some_iff.1 hc').1
            omega
        simp only [List.getElem?_toArray]
        rw [hget, if_neg ?_]
        · simpa using a1
        · rw [hnl]
          rintro ⟨b1, b2⟩
          rcases Nat.lt_or_ge i' off with hlt | hge
          · have : (i' + 1) * size ≤ off * size := Nat.mul_le_mul_right _ hlt
            rw [Nat.add_mul] at this; omega
          · have : (off + len) * size ≤ i' * size := Nat.mul_le_mul_right _ (by omega)
            rw [Nat.add_mul] at this; omega
  have hsb : SameBut blk w (w.setRow blk cur.toArray) := ⟨by simp [World.setRow], fun c hc => setRow_other w blk c _ hc, rfl, rfl, rfl⟩
  obtain ⟨r1, r2⟩ := h.setObj hs hloc (x' := .row (es.take off ++ List.replicate len z ++ es.drop (off + len))) (ob := .cells cur.toArray ty' (0, 0))
    (.inl ⟨es, _, size, n, cur.toArray, ty', rfl, rfl, rfl, rfl, by simp [hcl, hsz], by simp; omega, hrow⟩) hsb (setRow_heap w blk arr _ ty' _ hb)
  refine opTo_value (u := .tuple #[]) ?_ ⟨G, r1, .unit G, r2⟩
  obtain ⟨len, rfl⟩ : ∃ k, len = k + 1 := ⟨len - 1, by omega⟩
  have hzr' : ∀ w, (zeroValue e).run P w = .ok zv w := fun w => run_zeroValue hi hzv w
  simp [execOp, ho, resolve, invoke, builtin, Builtin.clear_, run_underlying hty, hu, hzr', hnew, hrun]
theorem op_clear0 {ty e : TypeId} {x : Operand} (ho : o.op = .call { callee := .builtin .clear, args := #[x], argTypes := #[ty] }) (hty : P.underlying ty = some (.slice e)) {y : LX} (hy : compX x = some y)
    (hv : (∃ q off, y.ev t = .rs q off 0) ∨ y.ev t = .p (.sl []) ∨ y.ev t = .tight []) (h : WR G st w) (hx : XsR G t a o.op) :
    OpTo P o a w (Good G st w (.tup []) st) := by
  have h1 := hx x (by rw [ho]; simp [Op.operands, Call.operands]) y hy
  have hu : ∃ (ad : Option Addr) (cap : Nat), a.eval x = .slice ad 0 cap := by
    rcases hv with ⟨q, off, hv⟩ | hv | hv <;> rw [hv] at h1
    · obtain ⟨blk, size, n, cap, hloc, hu, hm, hlc, hnn⟩ := h1.rs_inv
      exact ⟨_, _, hu⟩
    · generalize a.eval x = u at h1
      cases h1 with
      | p h1 => cases h1 <;> exact ⟨_, _, rfl⟩
    · generalize a.eval x = u at h1
      cases h1 with
      | tight h1 => exact ⟨_, _, rfl⟩
  obtain ⟨ad, cap, hu⟩ := hu
  refine opTo_value (u := .tuple #[]) (w' := w) ?_ (.same h (.unit G))
  cases ad <;> simp [execOp, ho, resolve, invoke, builtin, Builtin.clear_, run_underlying hty, hu]
end ops
end Go.LS
set_option linter.unusedVariables false
set_option linter.unusedSimpArgs false
namespace Go.LS
theorem WR.kill {G : Gh} {st : List LObj} {w : World} (h : WR G st w) {o : Nat} {l : Loc} {es : List (List LV)} (hl : G.loc o = some l) (hs : st[o]? = some (.row es)) :
    (WR G (st.set o .dead) w ∧ Ext G st w G (st.set o .dead) w) ∧ ∀ o' c, Owns G (st.set o .dead) o' c → o' ≠ o ∧ Owns G st o' c := by
  have holt : o < st.length := (List.getElem?_eq_some_iff.1 hs).1
  have hself : (st.set o LObj.dead)[o]? = some .dead := List.getElem?_set_self holt
  have hoo : ∀ o' c, Owns G (st.set o .dead) o' c → o' ≠ o ∧ Owns G st o' c := by
    intro o' c ho
    by_cases e' : o' = o
    · subst e'; unfold Owns at ho; rw [hself] at ho; exact ho.elim
    · refine ⟨e', ?_⟩
      unfold Owns at ho ⊢
      rw [List.getElem?_set_ne (Ne.symm e')] at ho
      exact ho
  have gc : ∀ {o' : Nat} {x : LObj}, (st.set o .dead)[o']? = some x → (o' ≠ o ∧ st[o']? = some x) ∨ (o' = o ∧ x = .dead) := by
    intro o' x hx
    by_cases e' : o' = o
    · subst e'; rw [hself] at hx; cases hx; exact .inr ⟨rfl, rfl⟩
    · rw [List.getElem?_set_ne (Ne.symm e')] at hx; exact .inl ⟨e', hx⟩
  refine ⟨⟨⟨h.fr, ?_, ?_, ?_, ?_, ?_, ?_, ?_, fun o' y ho hy f => ?_⟩, ⟨.refl G, rfl, rfl, rfl, Nat.le_refl _, fun _ _ _ => rfl, ?_, fun _ _ _ hv _ _ => hv, ?_, by simp⟩⟩, hoo⟩
  · intro o' ho'; simp at ho'; exact h.dom o' ho'
  · intro o' es' ho' l' hl'
    rcases gc ho' with ⟨_, ho'⟩ | ⟨_, e⟩
    · exact h.row o' es' ho' l' hl'
    · cases e
  · intro o' kv ho' l' hl'
    rcases gc ho' with ⟨_, ho'⟩ | ⟨_, e⟩
    · exact h.map o' kv ho' l' hl'
    · cases e
  · intro o' s p ho' l' hl'
    rcases gc ho' with ⟨_, ho'⟩ | ⟨_, e⟩
    · exact h.iter o' s p ho' l' hl'
    · cases e
  · intro o' n k ho'
    rcases gc ho' with ⟨_, ho'⟩ | ⟨_, e⟩
    · exact h.spare o' n k ho'
    · cases e
  · intro o1 o2 c h1 h2
    exact h.uniq o1 o2 c (hoo _ _ h1).2 (hoo _ _ h2).2
  · intro o' c h1 h2 off
    obtain ⟨e1, h1'⟩ := hoo _ _ h1
    exact h.ownF o' c h1' (fun ⟨n, k, e⟩ => h2 ⟨n, k, by rw [List.getElem?_set_ne (Ne.symm e1)]; exact e⟩) off
  · rcases gc ho with ⟨_, ho⟩ | ⟨rfl, rfl⟩
    · exact h.kind o' y ho hy f
    · exact h.kind _ _ hs (fun n k e => by cases e) f
  · intro o' c h1 _; exact ⟨o', (hoo _ _ h1).2⟩
  · intro o' ho' h1 h2
    refine ⟨?_, h1, h2⟩
    rw [List.getElem?_set_ne]
    intro e; subst e; rw [hl] at h1; cases h1
theorem WR.adopt {G : Gh} {st : List LObj} {w : World} (h : WR G st w) {b size n : Nat} {es : List (List LV)} {arr : Array Value} {e : TypeId} (hno : ∀ o, ¬ Owns G st o b)
    (hb : w.heap[b]? = some (.cells arr e (0, 0))) (h1 : arr.size = n * size) (h2 : es.length ≤ n) (h3 : rowOk G arr es size) (hF : ∀ off, G.F b off = none) :
    WR (G.addLoc st.length (.row b size n)) (st ++ [.row es]) w ∧ ∀ o c, Owns (G.addLoc st.length (.row b size n)) (st ++ [.row es]) o c → (o < st.length ∧ Owns G st o c) ∨ (o = st.length ∧ c = b) := by
  generalize hG : G.addLoc st.length (.row b size n) = G'
  have hle : G.le G' := hG ▸ Gh.le_addLoc (h.dom _ (Nat.le_refl _)).1
  have hloc : ∀ o, o < st.length → G'.loc o = G.loc o := fun o ho => by rw [← hG]; simp [Gh.addLoc, Nat.ne_of_lt ho]
  have hhist : ∀ o f, G'.hist o f = G.hist o f := fun _ _ => by rw [← hG]; rfl
  have hFF : ∀ c o, G'.F c o = G.F c o := fun _ _ => by rw [← hG]; rfl
  have hnew : G'.loc st.length = some (.row b size n) := by rw [← hG]; simp [Gh.addLoc]
  have hoo : ∀ o c, Owns G' (st ++ [.row es]) o c → (o < st.length ∧ Owns G st o c) ∨ (o = st.length ∧ c = b) := by
    intro o c ho
    have := Owns.lt ho
    simp at this
    rcases Nat.lt_or_ge o st.length with h' | h'
    · exact .inl ⟨h', (Owns.snoc h' (hloc o h') (fun f => hhist o f)).1 ho⟩
    · obtain rfl : o = st.length := by omega
      refine .inr ⟨rfl, ?_⟩
      unfold Owns at ho
      rw [get_snoc, hnew] at ho
      obtain ⟨_, _, e⟩ := ho
      cases e; rfl
  refine ⟨⟨?_, ?_, ?_, ?_, ?_, ?_, ?_, ?_, fun o y ho hy f => ?_⟩, hoo⟩
  · intro c o v hv; rw [hFF] at hv; exact h.fr c o v hv
  · intro o ho
    simp at ho
    refine ⟨?_, fun f => by rw [hhist]; exact (h.dom o (by omega)).2 f⟩
    rw [← hG]
    simp only [Gh.addLoc]
    rw [if_neg (by omega)]
    exact (h.dom o (by omega)).1
  · intro o es' ho l' hl'
    rcases get_snoc_cases ho with ⟨h', ho⟩ | ⟨rfl, e0⟩
    · rw [hloc o h'] at hl'
      obtain ⟨blk, size, n, e, arr, ty, hb, r⟩ := h.row o es' ho l' hl'
      exact ⟨blk, size, n, e, arr, ty, hb, r.1, r.2.1, r.2.2.mono hle⟩
    · cases e0
      rw [hnew] at hl'
      cases hl'
      exact ⟨b, size, n, rfl, arr, e, hb, h1, h2, h3.mono hle⟩
  · intro o kv ho l' hl'
    rcases get_snoc_cases ho with ⟨h', ho⟩ | ⟨rfl, e0⟩
    · rw [hloc o h'] at hl'
      obtain ⟨blk, e, es, c, hb, r⟩ := h.map o kv ho l' hl'
      exact ⟨blk, e, es, c, hb, ⟨r.1.mono hle, r.2⟩⟩
    · cases e0
  · intro o s pos ho l' hl'
    rcases get_snoc_cases ho with ⟨h', ho⟩ | ⟨rfl, e0⟩
    · rw [hloc o h'] at hl'
      exact h.iter o s pos ho l' hl'
    · cases e0
  · intro o n hw ho
    rcases get_snoc_cases ho with ⟨h', ho⟩ | ⟨rfl, e0⟩
    · obtain ⟨h1, h2⟩ := h.spare o n hw ho
      refine ⟨fun f hf => by rw [hhist]; exact h1 f hf, fun s hs => ?_⟩
      rw [hhist] at hs
      obtain ⟨a, b, c⟩ := h2 s hs
      exact ⟨a, b, fun off ho => by rw [hFF]; exact c off ho⟩
    · cases e0
  · intro o o' c ho ho'
    rcases hoo o c ho with ⟨h1, h2⟩ | ⟨rfl, rfl⟩ <;> rcases hoo o' _ ho' with ⟨h3, h4⟩ | ⟨rfl, h5⟩
    · exact h.uniq o o' c h2 h4
    · subst h5; exact (hno _ h2).elim
    · exact (hno _ h4).elim
    · rfl
  · intro o c ho hn off
    rw [hFF]
    rcases hoo o c ho with ⟨h1, h2⟩ | ⟨rfl, rfl⟩
    · exact h.ownF o c h2 (fun ⟨n, hw, e⟩ => hn ⟨n, hw, by rw [get_snoc_lt h1]; exact e⟩) off
    · exact hF off
  · rw [hhist]
    rcases get_snoc_cases ho with ⟨_, ho⟩ | ⟨rfl, _⟩
    · exact h.kind o y ho hy f
    · exact (h.dom _ (Nat.le_refl _)).2 f
theorem WR.move {G : Gh} {st : List LObj} {w : World} (h : WR G st w) {o b size n : Nat} {es : List (List LV)} (hs : st[o]? = some (.row es)) (hl : G.loc o = some (.row b size n)) :
    WR (G.addLoc st.length (.row b size n)) (st.set o .dead ++ [.row es]) w ∧ Ext G st w (G.addLoc st.length (.row b size n)) (st.set o .dead ++ [.row es]) w := by
  obtain ⟨⟨k1, k2⟩, k3⟩ := h.kill hl hs
  have how : Owns G st o b := by unfold Owns; rw [hs]; exact ⟨size, n, hl⟩
  have hno : ∀ o', ¬ Owns G (st.set o .dead) o' b := fun o' ho => (k3 o' b ho).1 (h.uniq o' o b (k3 o' b ho).2 how)
  obtain ⟨b', s', n', e, arr, ty, hb, r1, r2, r3⟩ := h.row o es hs _ hl
  cases e
  have hF : ∀ off, G.F b off = none := h.ownF o b how (by rintro ⟨_, _, e⟩; rw [hs] at e; cases e)
  obtain ⟨a1, a2⟩ := k1.adopt hno hb r1 r2 r3 hF
  have hlen : (st.set o LObj.dead).length = st.length := by simp
  rw [hlen] at a1 a2
  refine ⟨a1, ⟨Gh.le_addLoc (h.dom _ (Nat.le_refl _)).1, rfl, rfl, rfl, Nat.le_refl _, fun _ _ _ => rfl, ?_, fun _ _ _ hv _ _ => hv, ?_, by simp⟩⟩
  · intro o' c ho hc
    rcases a2 o' c ho with ⟨_, h2⟩ | ⟨_, rfl⟩
    · exact ⟨o', (k3 _ _ h2).2⟩
    · exact ⟨o, how⟩
  · intro o' ho' h1 h2
    have hne : o' ≠ o := by intro e; subst e; rw [hl] at h1; cases h1
    refine ⟨?_, ?_, h2⟩
    · rw [List.getElem?_append_left (by simpa using ho'), List.getElem?_set_ne (Ne.symm hne)]
    · simp only [Gh.addLoc]
      rw [if_neg (by omega)]
      exact h1
section ops
variable {P : Program} {G : Gh} {st st' : List LObj} {w : World} {t : List LV} {a : Act} {o : Oper} {v : LV}
def LCells (G : Gh) (xs : List (List LV)) (size : Nat) (news : List Value) : Prop :=
  news.length = xs.length * size ∧ ∀ i j c, at2 xs i j = some c → ∃ y, news[i * size + j]? = some y ∧ VL G c y ∧ y.oneCell' = true
theorem at2_ltL {xs : List (List LV)} {size i j : Nat} {c : LV} (hs : ∀ e ∈ xs, e.length = size) (h : at2 xs i j = some c) : i < xs.length ∧ j < size := by
  unfold at2 at h
  cases hq : xs[i]? with
  | none => simp [hq] at h
  | some e =>
    simp [hq] at h
    have h1 := (List.getElem?_eq_some_iff.1 hq).1
    have h2 := (List.getElem?_eq_some_iff.1 h).1
    rw [hs e (List.mem_of_getElem? hq)] at h2
    exact ⟨h1, h2⟩
theorem LCells.one {xs : List (List LV)} {size : Nat} {news : List Value} (h : LCells G xs size news) (hs : ∀ e ∈ xs, e.length = size) : ∀ y ∈ news, y.oneCell' = true := by
  intro y hy
  obtain ⟨k, hk⟩ := List.getElem?_of_mem hy
  have hlt := (List.getElem?_eq_some_iff.1 hk).1
  rw [h.1] at hlt
  obtain ⟨i, j, h1, h2, rfl⟩ := split_at hlt
  have hl := hs xs[i] (List.getElem_mem _)
  obtain ⟨y', a1, _, a3⟩ := h.2 i j (xs[i][j]'(by omega)) (by simp [at2, h1])
  rw [hk] at a1; cases a1
  exact a3
theorem rowCells {off len size n : Nat} {es : List (List LV)} {arr : Array Value} (hr : rowOk G arr es size) (hz : arr.size = n * size) (hmm : es.length ≤ n) (hle : off + len ≤ es.length) :
    LCells G ((es.drop off).take len) size ((arr.toList.drop (off * size)).take (len * size)) := by
  have hb1 : (off + len) * size ≤ n * size := Nat.mul_le_mul_right _ (by omega)
  rw [Nat.add_mul] at hb1
  have hlen : ((es.drop off).take len).length = len := by simp; omega
  refine ⟨?_, fun i j c hc => ?_⟩
  · rw [hlen]
    simp only [List.length_take, List.length_drop, Array.length_toList]; omega
  · have hs : ∀ e ∈ (es.drop off).take len, e.length = size := fun e he => hr.1 e (List.mem_of_mem_drop (List.mem_of_mem_take he))
    obtain ⟨hi, hj⟩ := at2_ltL hs hc
    rw [hlen] at hi
    have hc' : at2 es (off + i) j = some c := by
      unfold at2 at hc ⊢
      rw [List.getElem?_take, if_pos hi, List.getElem?_drop] at hc
      exact hc
    obtain ⟨y, a1, a2, a3⟩ := hr.2 _ _ _ hc'
    refine ⟨y, ?_, a2, a3⟩
    have hlt2 : i * size + j < len * size := by
      have : (i + 1) * size ≤ len * size := Nat.mul_le_mul_right _ (by omega)
      rw [Nat.add_mul] at this; omega
    rw [List.getElem?_take, if_pos hlt2, List.getElem?_drop]
    simp only [Array.getElem?_toList]
    rw [← a1]; congr 1; rw [Nat.add_mul]; omega
theorem run_rowCells {w' : World} {off len size n blk cap : Nat} {arr : Array Value} {ty : TypeId} {fz : Nat × Nat} (hb : w'.heap[blk]? = some (.cells arr ty fz)) (hz : arr.size = n * size) (hle : off + len ≤ n) :
    (Builtin.firstCells size len (.slice (some ⟨blk, off * size, none⟩) len cap)).run P w' = .ok ((arr.toList.drop (off * size)).take (len * size)).toArray w' := by
  have hb1 : (off + len) * size ≤ n * size := Nat.mul_le_mul_right _ hle
  rw [Nat.add_mul] at hb1
  refine run_firstCells_some (P := P) w' size len ⟨blk, off * size, none⟩ _ cap _ (by simp only [List.length_take, List.length_drop, Array.length_toList]; omega) (fun k y hk => ?_)
  rw [List.getElem?_take] at hk
  split at hk
  · rw [List.getElem?_drop] at hk
    simp only [Array.getElem?_toList] at hk
    rw [Addr.add_lit]
    unfold World.cell?
    rw [hb]
    simpa using hk
  · cases hk
theorem appendedR_sound (h : WR G st w) {x : LV} {xs : List (List LV)} {size : Nat} (hx : appendedR st x = some xs) (hs : ∀ e ∈ xs, e.length = size) {u : Value} (hu : VL G x u) :
    ∃ news, LCells G xs size news ∧ (Builtin.lenOf u).run P w = .ok xs.length w ∧ ∀ w', w'.heap = w.heap → (Builtin.firstCells size xs.length u).run P w' = .ok news.toArray w' := by
  unfold appendedR at hx
  split at hx
  · rename_i q off len
    split at hx
    · rename_i es hes
      split at hx
      · rename_i hle
        cases hx
        obtain ⟨blk, size', n, cap, hloc, rfl, hm, hlc, hn⟩ := hu.rs_inv
        obtain ⟨blk', size'', n', e5, arr, ty, hb, hz, hmm, hr⟩ := h.row q es hes _ hloc
        cases e5
        have hlen : ((es.drop off).take len).length = len := by simp; omega
        by_cases h0 : len = 0
        · subst h0
          refine ⟨[], ⟨by simp, fun i j c h => by simp [at2] at h⟩, by simp [Builtin.lenOf], fun w' _ => ?_⟩
          simp only [List.take_zero, List.length_nil]
          exact run_firstCells_some (P := P) w' size 0 _ 0 cap [] (by simp) (fun k y hk => by simp at hk)
        · have hse : size' = size := by
            have hp : 0 < ((es.drop off).take len).length := by omega
            have h1 := hs _ (List.getElem_mem hp)
            have h2 := hr.1 _ (List.mem_of_mem_drop (List.mem_of_mem_take (List.getElem_mem hp)))
            omega
          subst hse
          refine ⟨_, rowCells hr hz hmm hle, by simp [Builtin.lenOf, hlen], fun w' hw' => ?_⟩
          rw [hlen]
          exact run_rowCells (by rw [hw']; exact hb) hz (by omega)
      · cases hx
    · cases hx
  · rename_i hne
    split at hx
    · rename_i ps hps
      cases hx
      have hs' : ∀ e ∈ ps, e.length = size := fun e he => by have := hs _ (List.mem_map_of_mem he); simpa using this
      obtain ⟨news, n1, n2, n3⟩ := appended_sound (P := P) h (str := false) (x := x) (xs := ps) (size := size) (by
        unfold appended
        split
        · simp [LV.asSl] at hps
        · exact absurd rfl (hne _ _ _)
        · exact hps) hs' hu (by intro e; cases e)
      refine ⟨news, ⟨by simpa using n1.1, fun i j c hc => ?_⟩, by simpa using n2, by simpa using n3⟩
      unfold at2 at hc
      rw [List.getElem?_map] at hc
      cases hq : ps[i]? with
      | none => simp [hq] at hc
      | some e =>
        simp [hq] at hc
        obtain ⟨p, hp, rfl⟩ := hc
        obtain ⟨y, a1, a2⟩ := n1.2 i j p (by simp [at2, hq, hp])
        exact ⟨y, a1, .p a2, a2.one⟩
    · cases hx
theorem rowOk_append {arr : Array Value} {es xs : List (List LV)} {olds news rest : List Value} {size : Nat} (h1 : LCells G es size olds) (h2 : LCells G xs size news) (s1 : ∀ e ∈ es, e.length = size) (s2 : ∀ e ∈ xs, e.length = size)
    (ha : arr.toList = olds ++ news ++ rest) : rowOk G arr (es ++ xs) size := by
  refine ⟨fun e he => (List.mem_append.1 he).elim (s1 e) (s2 e), fun i j c hc => ?_⟩
  have hget : ∀ k, arr[k]? = (olds ++ news ++ rest)[k]? := fun k => by rw [← ha, Array.getElem?_toList]
  unfold at2 at hc
  rcases Nat.lt_or_ge i es.length with hi | hi
  · rw [List.getElem?_append_left hi] at hc
    obtain ⟨y, a1, a2, a3⟩ := h1.2 i j c hc
    refine ⟨y, ?_, a2, a3⟩
    have := (List.getElem?_eq_some_iff.1 a1).1
    rw [hget, List.append_assoc, List.getElem?_append_left this]; exact a1
  · rw [List.getElem?_append_right hi] at hc
    obtain ⟨y, a1, a2, a3⟩ := h2.2 (i - es.length) j c hc
    refine ⟨y, ?_, a2, a3⟩
    have h3 := (List.getElem?_eq_some_iff.1 a1).1
    have e : i * size + j = olds.length + ((i - es.length) * size + j) := by
      rw [h1.1, Nat.sub_mul]
      have : es.length * size ≤ i * size := Nat.mul_le_mul_right _ hi
      omega
    rw [hget, e, List.append_assoc, List.getElem?_append_right (by omega), Nat.add_sub_cancel_left, List.getElem?_append_left h3]; exact a1
theorem LCells.append {es xs : List (List LV)} {olds news : List Value} {size : Nat} (h1 : LCells G es size olds) (h2 : LCells G xs size news) : LCells G (es ++ xs) size (olds ++ news) := by
  refine ⟨by rw [List.length_append, List.length_append, h1.1, h2.1, Nat.add_mul], fun i j c hc => ?_⟩
  unfold at2 at hc
  rcases Nat.lt_or_ge i es.length with hi | hi
  · rw [List.getElem?_append_left hi] at hc
    obtain ⟨y, a1, a2, a3⟩ := h1.2 i j c hc
    refine ⟨y, ?_, a2, a3⟩
    have := (List.getElem?_eq_some_iff.1 a1).1
    rw [List.getElem?_append_left this]; exact a1
  · rw [List.getElem?_append_right hi] at hc
    obtain ⟨y, a1, a2, a3⟩ := h2.2 (i - es.length) j c hc
    refine ⟨y, ?_, a2, a3⟩
    have e : i * size + j = olds.length + ((i - es.length) * size + j) := by
      rw [h1.1, Nat.sub_mul]
      have : es.length * size ≤ i * size := Nat.mul_le_mul_right _ hi
      omega
    rw [e, List.getElem?_append_right (by omega), Nat.add_sub_cancel_left]; exact a1
theorem rowOk_splice {arr cur : Array Value} {es xs : List (List LV)} {news : List Value} {size n m : Nat} (hr : rowOk G arr es size) (hz : arr.size = n * size) (hmm : es.length ≤ n) (h2 : LCells G xs size news) (s2 : ∀ e ∈ xs, e.length = size)
    (hm : m + xs.length ≤ es.length) (hc : cur.toList = arr.toList.take (m * size) ++ news ++ arr.toList.drop (m * size + news.length)) : rowOk G cur (es.take m ++ xs ++ es.drop (m + xs.length)) size := by
  have a1 := rowCells (off := 0) (len := m) hr hz hmm (by omega)
  simp only [List.drop_zero, Nat.zero_mul] at a1
  have a2 := rowCells (off := m + xs.length) (len := es.length - (m + xs.length)) hr hz hmm (by omega)
  have e1 : (es.drop (m + xs.length)).take (es.length - (m + xs.length)) = es.drop (m + xs.length) := List.take_of_length_le (by simp)
  rw [e1] at a2
  have e2 : m * size + news.length = (m + xs.length) * size := by rw [h2.1, Nat.add_mul]
  rw [e2] at hc
  refine rowOk_append (olds := arr.toList.take (m * size) ++ news) (rest := (arr.toList.drop ((m + xs.length) * size)).drop ((es.length - (m + xs.length)) * size)) (a1.append h2) a2 (fun e he => (List.mem_append.1 he).elim (fun h => hr.1 e (List.mem_of_mem_take h)) (s2 e)) (fun e he => hr.1 e (List.mem_of_mem_drop he)) ?_
  rw [hc, List.append_assoc _ (List.take _ _), List.take_append_drop]
theorem sizedL_iff {n : Nat} {es : List (List LV)} (h : sizedL n es = true) : ∀ e ∈ es, e.length = n := by
  intro e he
  have := List.all_eq_true.1 h e he
  simpa using this
theorem op_appendR {s x : Operand} {ty u e : TypeId} {d : TypeDesc} (ho : o.op = .call { callee := .builtin .append, args := #[s, x], argTypes := #[ty, u] })
    (ht : P.underlying ty = some (.slice e)) (hd : P.underlying u = some d) (hdi : ∀ k, d ≠ .int k) {i : TypeInfo} (hi : P.info? e = some i) {z : Value} (hz : i.zero = some z) (hzs : z.cells.size = i.size)
    {s' x' : LX} (hs' : compX s = some s') (hx' : compX x = some x') (hr : rappend i.size i.bytes st (s'.ev t) (x'.ev t) = some (v, st'))
    (h : WR G st w) (hx : XsR G t a o.op) : OpTo P o a w (Good G st w v st') := by
  have hs1 := hx s (by rw [ho]; simp [Op.operands, Call.operands]) s' hs'
  have hx1 := hx x (by rw [ho]; simp [Op.operands, Call.operands]) x' hx'
  have key : ∀ (r : Value) (w' : World), (Builtin.append_ #[ty, u] o.type #[a.eval s, a.eval x]).run P w = .ok r w' → (execOp a.eval o).run P w = .ok (.value r) w' := by
    intro r w' hrun
    simp [execOp, ho, resolve, invoke, builtin, hrun]
  unfold rappend at hr
  split at hr
  · cases hr
  rename_i xs hap
  split at hr
  · cases hr
  rename_i hsz
  have hxs := sizedL_iff (n := i.size) (es := xs) (by simpa using hsz)
  obtain ⟨news, hn1, hn2, hn3⟩ := appendedR_sound (P := P) h hap hxs hx1
  have hone := hn1.one hxs
  have hw : WR G st w.drew := h.of_heap rfl
  split at hr
  · -- nothing ahead
    rename_i heq
    rw [heq] at hs1
    obtain ⟨ad, hu, hvp⟩ := hs1.tight_inv
    split at hr
    · rename_i hemp
      have : xs = [] := by simpa using hemp
      subst this
      cases hr
      have hnn' : news = [] := List.eq_nil_of_length_eq_zero (by simpa using hn1.1)
      subst hnn'
      refine opTo_value (key _ w ?_) (.same h hs1)
      rw [hu]
      exact run_appendNone ht hd hdi hi (Nat.le_refl _) hn2 (hn3 w rfl)
    · rename_i hemp
      split at hr
      · rename_i hc
        obtain ⟨c2, c3, c4⟩ := hc
        cases hr
        have hpos : 0 < xs.length := by rcases xs with _ | _; · simp at hemp
                                        · simp
        have holds : (Builtin.firstCells i.size 0 (.slice ad 0 0)).run P w.drew = .ok ([] : List Value).toArray w.drew := by
          cases ad with
          | none => simp [Builtin.firstCells]
          | some ad => exact run_firstCells_some (P := P) w.drew i.size 0 ad 0 0 [] (by simp) (fun k y hk => by simp at hk)
        have hrun := run_grow (P := P) (w := w) (rt := o.type) ht hd hdi hi hz (base := ad) (sLen := 0) (sCap := 0) (olds := []) holds hn2 (hn3 w.drew rfl) (by omega) (by omega) (by rw [Nat.zero_add]; exact c2)
        rw [Nat.zero_add] at hrun
        generalize hcap : grownCap w xs.length 0 e = cap at hrun
        have hge : xs.length ≤ cap := by rw [← hcap]; exact grownCap_ge ..
        have hle : cap ≤ maxLen := by rw [← hcap]; exact grownCap_le_maxLen _ _ _ _ c3
        generalize harr : ([] : List Value).toArray ++ news.toArray ++ Builtin.zeroCells z.cells (cap - xs.length) = arr at hrun
        have hal : arr.toList = [] ++ news ++ (Builtin.zeroCells z.cells (cap - xs.length)).toList := by rw [← harr]; simp
        have hasz : arr.size = cap * i.size := by
          rw [← harr]; simp only [Array.size_append, List.size_toArray, List.length_nil, hn1.1, size_zeros, hzs, Nat.zero_add]
          rw [← Nat.add_mul]; congr 1; omega
        have hrow : rowOk G arr xs i.size := by
          have := rowOk_append (G := G) (arr := arr) (es := []) (xs := xs) (olds := []) (size := i.size) ⟨by simp, fun i j c h => by simp [at2] at h⟩ hn1 (by simp) hxs hal
          simpa using this
        obtain ⟨r1, r2⟩ := hw.newObj (.row xs) (.row w.drew.heap.size i.size cap) (.cells arr e) (.inl ⟨xs, i.size, cap, arr, e, rfl, rfl, rfl, hasz, hge, hrow⟩)
        refine opTo_value (key _ _ (by rw [hu]; exact hrun)) ⟨_, r1, ?_, (Ext.of_heap (w := w) (w' := w.drew) rfl rfl rfl rfl).trans r2⟩
        have hv := VL.rs (G := G.addLoc st.length (.row w.drew.heap.size i.size cap)) (o := st.length) (off := 0) (len := xs.length) (cap := cap) (by simp [Gh.addLoc]; exact ⟨rfl, rfl, rfl⟩) hle hge (by omega)
        simpa using hv
      · cases hr
  · -- behind an object's elements
    rename_i q len heq
    rw [heq] at hs1
    obtain ⟨blk, size, n, cap, hloc, hu, hm, hlc, hnn⟩ := hs1.rs_inv
    split at hr
    · rename_i es hes
      obtain ⟨blk', size', n', e5, arr, ty', hb, hasz, hmm, hrw⟩ := h.row q es hes _ hloc
      cases e5
      split at hr
      · rename_i hemp
        have : xs = [] := by simpa using hemp
        subst this
        cases hr
        have hnn' : news = [] := List.eq_nil_of_length_eq_zero (by simpa using hn1.1)
        subst hnn'
        refine opTo_value (key _ w ?_) (.same h hs1)
        rw [hu]
        exact run_appendNone ht hd hdi hi hlc hn2 (hn3 w rfl)
      · rename_i hemp
        split at hr
        · rename_i hc
          obtain ⟨rfl, c0, c1, c2, c3, c4⟩ := hc
          cases hr
          have hpos : 0 < xs.length := by rcases xs with _ | _; · simp at hemp
                                          · simp
          have hes' := sizedL_iff c1
          by_cases h0 : es = []
          · -- the object holds nothing
            subst h0
            simp at c0
          · have hse : size = i.size := by
              obtain ⟨e0, r0, rfl⟩ := List.exists_cons_of_ne_nil h0
              have h1 := hrw.1 e0 (by simp)
              have h2 := hes' e0 (by simp)
              omega
            subst hse
            have holds := rowCells (off := 0) (len := es.length) hrw hasz hmm (by omega)
            simp only [List.drop_zero, List.take_length, Nat.zero_mul] at holds hu
            by_cases hroom : es.length + xs.length ≤ cap
            · have hfit : 0 + es.length * i.size + news.length ≤ arr.size := by
                rw [hasz, hn1.1, Nat.zero_add, ← Nat.add_mul]
                exact Nat.mul_le_mul_right _ (by omega)
              have hrun := run_room (P := P) (w := w) (rt := o.type) ht hd hdi hi (b := blk) (off := 0) (sLen := es.length) (sCap := cap) hb hn2 (hn3 w rfl) hone hroom hfit
              rw [Nat.zero_add] at hrun hfit
              generalize hcur : (arr.toList.take (es.length * i.size) ++ news ++ arr.toList.drop (es.length * i.size + news.length)) = cur at hrun
              have hcl : cur.length = arr.size := by rw [← hcur]; simp only [List.length_append, List.length_take, List.length_drop, Array.length_toList]; omega
              have hrow : rowOk G cur.toArray (es ++ xs) i.size := rowOk_append holds hn1 hes' hxs (by simpa using hcur.symm)
              have hsb : SameBut blk w (w.setRow blk cur.toArray) := ⟨by simp [World.setRow], fun c hc => setRow_other w blk c _ hc, rfl, rfl, rfl⟩
              obtain ⟨r1, r2⟩ := h.setObj hes hloc (x' := .row (es ++ xs)) (ob := .cells cur.toArray ty' (0, 0))
                (.inl ⟨es, _, i.size, n, cur.toArray, ty', rfl, rfl, rfl, rfl, by simp [hcl, hasz], by simp; omega, hrow⟩) hsb (setRow_heap w blk arr _ ty' _ hb)
              have hlt := (List.getElem?_eq_some_iff.1 hes).1
              obtain ⟨m1, m2⟩ := r1.move (o := q) (b := blk) (size := i.size) (n := n) (es := es ++ xs) (by rw [List.getElem?_set_self hlt]) hloc
              rw [List.set_set, List.length_set] at m1 m2
              refine opTo_value (key _ _ (by rw [hu]; exact hrun)) ⟨_, m1, ?_, r2.trans m2⟩
              have hv := VL.rs (G := G.addLoc st.length (.row blk i.size n)) (o := st.length) (off := 0) (len := es.length + xs.length) (cap := cap) (by simp [Gh.addLoc]; exact ⟨rfl, rfl, rfl⟩) hm hroom (by omega)
              simpa using hv
            · have hold2 : (Builtin.firstCells i.size es.length (.slice (some ⟨blk, 0, none⟩) es.length cap)).run P w.drew = .ok (arr.toList.take (es.length * i.size)).toArray w.drew := by
                have := run_rowCells (P := P) (w' := w.drew) (off := 0) (len := es.length) (size := i.size) (n := n) (cap := cap) (arr := arr) (blk := blk) hb hasz (by omega)
                simpa using this
              have hrun := run_grow (P := P) (w := w) (rt := o.type) ht hd hdi hi hz hold2 hn2 (hn3 w.drew rfl) (by omega) c3 c2
              generalize hcap : grownCap w (es.length + xs.length) cap e = cap' at hrun
              have hge : es.length + xs.length ≤ cap' := by rw [← hcap]; exact grownCap_ge ..
              have hle : cap' ≤ maxLen := by rw [← hcap]; exact grownCap_le_maxLen _ _ _ _ c3
              generalize harr : (arr.toList.take (es.length * i.size)).toArray ++ news.toArray ++ Builtin.zeroCells z.cells (cap' - (es.length + xs.length)) = arr' at hrun
              have hal : arr'.toList = arr.toList.take (es.length * i.size) ++ news ++ (Builtin.zeroCells z.cells (cap' - (es.length + xs.length))).toList := by rw [← harr]; simp
              have hasz' : arr'.size = cap' * i.size := by
                rw [← harr]; simp only [Array.size_append, List.size_toArray, hn1.1, holds.1, size_zeros, hzs]
                rw [← Nat.add_mul, ← Nat.add_mul]; congr 1; omega
              have hrow : rowOk G arr' (es ++ xs) i.size := rowOk_append holds hn1 hes' hxs hal
              obtain ⟨⟨k1, k2⟩, _⟩ := hw.kill hloc hes
              obtain ⟨r1, r2⟩ := k1.newObj (.row (es ++ xs)) (.row w.drew.heap.size i.size cap') (.cells arr' e) (.inl ⟨_, i.size, cap', arr', e, rfl, rfl, rfl, hasz', by simpa using hge, hrow⟩)
              rw [List.length_set] at r1 r2
              refine opTo_value (key _ _ (by rw [hu]; exact hrun)) ⟨_, r1, ?_, (Ext.of_heap (w := w) (w' := w.drew) rfl rfl rfl rfl).trans (k2.trans r2)⟩
              have hv := VL.rs (G := G.addLoc st.length (.row w.drew.heap.size i.size cap')) (o := st.length) (off := 0) (len := es.length + xs.length) (cap := cap') (by simp [Gh.addLoc]; exact ⟨rfl, rfl, rfl⟩) hle hge (by omega)
              simpa using hv
        · split at hr
          · rename_i hc
            obtain ⟨c0, c1, c4⟩ := hc
            cases hr
            have hpos : 0 < xs.length := by rcases xs with _ | _; · simp at hemp
                                            · simp
            have hes' := sizedL_iff c1
            have h0 : es ≠ [] := by intro q; have := congrArg List.length q; simp only [List.length_nil] at this; omega
            have hse : size = i.size := by
              obtain ⟨e0, r0, rfl⟩ := List.exists_cons_of_ne_nil h0
              have h1 := hrw.1 e0 (by simp)
              have h2 := hes' e0 (by simp)
              omega
            subst hse
            simp only [Nat.zero_mul] at hu
            have hroom : len + xs.length ≤ cap := by omega
            have hfit : 0 + len * i.size + news.length ≤ arr.size := by
              rw [hasz, hn1.1, Nat.zero_add, ← Nat.add_mul]
              exact Nat.mul_le_mul_right _ (by omega)
            have hrun := run_room (P := P) (w := w) (rt := o.type) ht hd hdi hi (b := blk) (off := 0) (sLen := len) (sCap := cap) hb hn2 (hn3 w rfl) hone hroom hfit
            rw [Nat.zero_add] at hrun hfit
            generalize hcur : (arr.toList.take (len * i.size) ++ news ++ arr.toList.drop (len * i.size + news.length)) = cur at hrun
            have hcl : cur.length = arr.size := by rw [← hcur]; simp only [List.length_append, List.length_take, List.length_drop, Array.length_toList]; omega
            have hrow : rowOk G cur.toArray (es.take len ++ xs ++ es.drop (len + xs.length)) i.size := rowOk_splice hrw hasz hmm hn1 hxs c0 (by simpa using hcur.symm)
            have hsb : SameBut blk w (w.setRow blk cur.toArray) := ⟨by simp [World.setRow], fun c hc => setRow_other w blk c _ hc, rfl, rfl, rfl⟩
            obtain ⟨r1, r2⟩ := h.setObj hes hloc (x' := .row (es.take len ++ xs ++ es.drop (len + xs.length))) (ob := .cells cur.toArray ty' (0, 0))
              (.inl ⟨es, _, i.size, n, cur.toArray, ty', rfl, rfl, rfl, rfl, by simp [hcl, hasz], by simp; omega, hrow⟩) hsb (setRow_heap w blk arr _ ty' _ hb)
            refine opTo_value (key _ _ (by rw [hu]; exact hrun)) ⟨_, r1, ?_, r2⟩
            have hv := VL.rs (G := G) (o := q) (off := 0) (len := len + xs.length) (cap := cap) hloc hm hroom hnn
            simpa using hv
          · cases hr
    · cases hr
  · cases hr
end ops
end Go.LS
set_option linter.unusedVariables false
set_option linter.unusedSimpArgs false
namespace Go.LS
theorem Ext0.refl' {G : Gh} {st : List LObj} {w : World} : Ext0 G st w G st w := (Ext.refl ..).to0
theorem frzC_rs (st : List LObj) (o off len : Nat) : frzC st (.rs o off len) = (.rs o off len, st) ∨ ∃ es qs, st[o]? = some (.row es) ∧ off + len ≤ es.length ∧ rowPV ((es.drop off).take len) = some qs ∧ frzC st (.rs o off len) = (.p (.sl qs), st.set o .dead) := by
  cases hs : st[o]? with
  | none => left; simp only [frzC, hs]
  | some x =>
    cases x with
    | row es =>
      by_cases hl : off + len ≤ es.length
      · cases hq : rowPV ((es.drop off).take len) with
        | none => left; simp only [frzC, hs, if_pos hl, hq]
        | some qs => right; exact ⟨es, qs, rfl, hl, hq, by simp only [frzC, hs, if_pos hl, hq]⟩
      · left; simp only [frzC, hs, if_neg hl]
    | _ => left; simp only [frzC, hs]
theorem frzC_sound {G : Gh} {st : List LObj} {w : World} {v : LV} {u : Value} (h : WR G st w) (hv : VL G v u) :
    ∃ G', G.le G' ∧ WR G' (frzC st v).2 w ∧ VL G' (frzC st v).1 u ∧ Ext0 G st w G' (frzC st v).2 w := by
  cases v
  case rs o off len =>
    rcases frzC_rs st o off len with e | ⟨es, qs, hs, hl, hq, e⟩
    · rw [e]; exact ⟨G, .refl G, h, hv, Ext0.refl'⟩
    · rw [e]
      obtain ⟨blk, size, n, cap, hloc, hu, hm, hlc, hnn⟩ := hv.rs_inv
      obtain ⟨blk', size', n', e', arr, ty, hb, hz, hen, hr⟩ := h.row o es hs _ hloc
      cases e'
      obtain ⟨r1, r2⟩ := h.retire hs hloc hb ⟨rfl, fun _ _ => rfl, rfl, rfl, rfl⟩ hb
      refine ⟨_, Gh.le_addF .., r1, .p ?_, r2.to0⟩
      rw [hu]
      obtain ⟨q1, q2⟩ := rowPV_get hq
      have hlen : qs.length = len := by rw [q1]; simp; omega
      have hsz : ∀ e ∈ qs, e.length = size := rowPV_sized hq (fun e he => hr.1 e (List.mem_of_mem_drop (List.mem_of_mem_take he)))
      rw [← hlen]
      refine VP.mk (size := size) (by omega) hm hsz ?_
      intro i j p hp
      obtain ⟨c, hc1, hc2⟩ := q2 i j p hp
      have hc3 : at2 es (off + i) j = some c := by
        unfold at2 at hc1 ⊢
        rw [List.getElem?_take] at hc1
        split at hc1
        · rw [List.getElem?_drop] at hc1; exact hc1
        · simp at hc1
      obtain ⟨u, hu1, hu2, _⟩ := hr.2 (off + i) j c hc3
      refine ⟨u, ?_, (toPV_sound hc2 hu2).mono (Gh.le_addF ..).F⟩
      simp only [Gh.addF]
      have hF : G.F blk (off * size + i * size + j) = none := h.ownF o blk (by unfold Owns; rw [hs]; exact ⟨size, n, hloc⟩) (by rintro ⟨a, b, e⟩; rw [hs] at e; cases e) _
      rw [hF]
      simp only [if_true]
      rw [← hu1]
      congr 1
      rw [Nat.add_mul]
  all_goals exact ⟨G, .refl G, h, hv.weak1, Ext0.refl'⟩
theorem frzCs_sound : ∀ {cs : List LV} {G : Gh} {st : List LObj} {w : World} {us : List Value}, WR G st w → us.length = cs.length → (∀ (i : Nat) v u, cs[i]? = some v → us[i]? = some u → VL G v u) →
    ∃ G', G.le G' ∧ WR G' (frzCs st cs).2 w ∧ us.length = (frzCs st cs).1.length ∧ (∀ (i : Nat) v u, (frzCs st cs).1[i]? = some v → us[i]? = some u → VL G' v u) ∧ Ext0 G st w G' (frzCs st cs).2 w
  | [], G, st, w, us, h, hl, hv => ⟨G, .refl G, h, hl, by simp [frzCs], Ext0.refl'⟩
  | c :: r, G, st, w, us, h, hl, hv => by
    cases us with
    | nil => simp at hl
    | cons u us =>
      obtain ⟨G1, a1, a2, a3, a4⟩ := frzC_sound h (hv 0 c u rfl rfl)
      obtain ⟨G2, b1, b2, b3, b4, b5⟩ := frzCs_sound (cs := r) (us := us) a2 (by simpa using hl) (fun i v x h1 h2 => (hv (i + 1) v x (by simpa using h1) (by simpa using h2)).mono a1)
      simp only [frzCs]
      refine ⟨G2, a1.trans b1, b2, by simp [b3], fun i v x h1 h2 => ?_, a4.trans b5⟩
      cases i with
      | zero => simp at h1 h2; subst h1 h2; exact a3.mono b1
      | succ i => exact b4 i v x (by simpa using h1) (by simpa using h2)
theorem frz1_sound {G : Gh} {st : List LObj} {w : World} {v : LV} {u : Value} (h : WR G st w) (hv : VL G v u) :
    ∃ G', G.le G' ∧ WR G' (frz1 st v).2 w ∧ VL G' (frz1 st v).1 u ∧ Ext0 G st w G' (frz1 st v).2 w := by
  cases v
  case agg cs =>
    cases hv with
    | agg vs h1 h2 h3 =>
      obtain ⟨G1, a1, a2, a3, a4, a5⟩ := frzCs_sound (cs := cs) (us := vs.toList) h (by simp [h1]) (fun i v x g1 g2 => by
        have := h3 i v g1
        rw [Array.getElem?_toList] at g2
        rw [Array.getD_eq_getD_getElem?, g2] at this
        exact this)
      simp only [frz1]
      refine ⟨G1, a1, a2, .agg vs (by simpa using a3) h2 (fun i x hx => ?_), a5⟩
      have hi : i < vs.size := by
        have := (List.getElem?_eq_some_iff.1 hx).1
        rw [← a3] at this
        simpa using this
      have := a4 i x vs[i] hx (by rw [Array.getElem?_toList]; exact Array.getElem?_eq_getElem hi)
      rw [Array.getD_eq_getD_getElem?, Array.getElem?_eq_getElem hi]
      exact this
  all_goals exact frzC_sound h hv
theorem frzL_sound : ∀ {cs : List LV} {G : Gh} {st : List LObj} {w : World} {us : List Value}, WR G st w → us.length = cs.length → (∀ (i : Nat) v u, cs[i]? = some v → us[i]? = some u → VL G v u) →
    ∃ G', G.le G' ∧ WR G' (frzL st cs).2 w ∧ us.length = (frzL st cs).1.length ∧ (∀ (i : Nat) v u, (frzL st cs).1[i]? = some v → us[i]? = some u → VL G' v u) ∧ Ext0 G st w G' (frzL st cs).2 w
  | [], G, st, w, us, h, hl, hv => ⟨G, .refl G, h, hl, by simp [frzL], Ext0.refl'⟩
  | c :: r, G, st, w, us, h, hl, hv => by
    cases us with
    | nil => simp at hl
    | cons u us =>
      obtain ⟨G1, a1, a2, a3, a4⟩ := frz1_sound h (hv 0 c u rfl rfl)
      obtain ⟨G2, b1, b2, b3, b4, b5⟩ := frzL_sound (cs := r) (us := us) a2 (by simpa using hl) (fun i v x h1 h2 => (hv (i + 1) v x (by simpa using h1) (by simpa using h2)).mono a1)
      simp only [frzL]
      refine ⟨G2, a1.trans b1, b2, by simp [b3], fun i v x h1 h2 => ?_, a4.trans b5⟩
      cases i with
      | zero => simp at h1 h2; subst h1 h2; exact a3.mono b1
      | succ i => exact b4 i v x (by simpa using h1) (by simpa using h2)
theorem frz_sound {b : Bool} {cs : List LV} {G : Gh} {st : List LObj} {w : World} {us : List Value} (h : WR G st w) (hl : us.length = cs.length) (hv : ∀ (i : Nat) v u, cs[i]? = some v → us[i]? = some u → VL G v u) :
    ∃ G', G.le G' ∧ WR G' (frz b st cs).2 w ∧ us.length = (frz b st cs).1.length ∧ (∀ (i : Nat) v u, (frz b st cs).1[i]? = some v → us[i]? = some u → VL G' v u) ∧ Ext0 G st w G' (frz b st cs).2 w := by
  cases b
  · exact ⟨G, .refl G, h, hl, hv, Ext0.refl'⟩
  · exact frzL_sound h hl hv
theorem frzV_sound {G : Gh} {st : List LObj} {w : World} {v : LV} {u : Value} (h : WR G st w) (hv : VL G v u) :
    ∃ G', G.le G' ∧ WR G' (frzV st v).2 w ∧ VL G' (frzV st v).1 u ∧ Ext0 G st w G' (frzV st v).2 w := by
  cases v
  case tup cs =>
    cases hv with
    | tup vs h1 h3 =>
      obtain ⟨G1, a1, a2, a3, a4, a5⟩ := frzL_sound (cs := cs) (us := vs.toList) h (by simp [h1]) (fun i v x g1 g2 => by
        have := h3 i v g1
        rw [Array.getElem?_toList] at g2
        rw [Array.getD_eq_getD_getElem?, g2] at this
        exact this)
      simp only [frzV]
      refine ⟨G1, a1, a2, .tup vs (by simpa using a3) (fun i x hx => ?_), a5⟩
      have hi : i < vs.size := by
        have := (List.getElem?_eq_some_iff.1 hx).1
        rw [← a3] at this
        simpa using this
      have := a4 i x vs[i] hx (by rw [Array.getElem?_toList]; exact Array.getElem?_eq_getElem hi)
      rw [Array.getD_eq_getD_getElem?, Array.getElem?_eq_getElem hi]
      exact this
  all_goals exact frz1_sound h hv
theorem callFz_ok {P : Program} {call : CallF} (hok : CallOK P call) : CallOK P (callFz call) := by
  intro f args st res st' h
  unfold callFz at h
  simp only at h
  split at h
  · rename_i r st1 hc
    obtain ⟨hp, hq⟩ := hok _ _ _ _ _ hc
    refine ⟨hp, fun G w us hw ha => ?_⟩
    split at h
    · rename_i r2 st3 hg
      cases h
      refine (hq G w us hw ha).mono ?_
      rintro e w' ⟨u, G1, he, k1, k2, k3⟩
      obtain ⟨G2, a1, a2, a3, a4⟩ := frzV_sound k1 k2
      obtain ⟨G3, b1, b2, b3, b4⟩ := gc_sound (vs := [(frzV st1 r).1]) (us := [u]) a2 (k3.trans a4) hw.dom hg rfl (fun i v x h1 h2 => by
        cases i with
        | zero => simp at h1 h2; subst h1 h2; exact a3
        | succ i => simp at h1)
      exact ⟨u, G3, he, b1, b4 0 _ u rfl rfl, b2⟩
    · cases h
  · cases h
end Go.LS
set_option linter.unusedVariables false
set_option linter.unusedSimpArgs false
namespace Go.LS
theorem isSome_map {α β : Type} {f : α → β} {o : Option α} {v : β} (h : o.map f = some v) : o.isSome = true := by cases o <;> simp_all
theorem notNone_map {α β : Type} {f : α → β} {o : Option α} {q : Prop} (h : ¬ ((o.map f).isNone = true ∨ q)) : o.isSome = true := by cases o <;> simp_all
section
variable {P : Program} {G : Gh} {st st' : List LObj} {w : World} {t : List LV} {a : Act} {o : Oper} {v : LV} {call : CallF}
theorem argsR_append {G : Gh} {xs ys : List LV} {us vs : Array Value} (h1 : ArgsR G xs us) (h2 : ArgsR G ys vs) : ArgsR G (xs ++ ys) (us ++ vs) := by
  refine ⟨by simp [h1.1, h2.1], fun i x hx => ?_⟩
  by_cases hi : i < xs.length
  · rw [List.getElem?_append_left hi] at hx
    have := h1.2 i x hx
    rw [Array.getD_eq_getD_getElem?, Array.getElem?_append_left (by rw [h1.1]; exact hi), ← Array.getD_eq_getD_getElem?]
    exact this
  · rw [List.getElem?_append_right (by omega)] at hx
    have := h2.2 _ x hx
    rw [Array.getD_eq_getD_getElem?, Array.getElem?_append_right (by rw [h1.1]; omega), ← Array.getD_eq_getD_getElem?, h1.1]
    exact this
theorem run_callFunc {f : FuncId} (hp : plainFn P f = true) (args : Array Value) (w : World) : (callFunc f args).run P w = .ok (.enter f args) w := by
  unfold plainFn at hp
  split at hp
  · rename_i fn hf
    simp only [Bool.and_eq_true, Bool.not_eq_true'] at hp
    have hb : fn.body ≠ none := by
      intro e
      have := hp.2
      rw [e] at this; cases this
    have hne : fn.name ≠ "runtime.NumGoroutine" := by simpa using hp.1
    simp [callFunc, hf, hne, hb]
  · cases hp
theorem opTo_call (hok : CallOK P call) {f : FuncId} {args : List LV} {us : Array Value} (ha : ArgsR G args us) (hc : callIso call f args st = some (v, st')) (h : WR G st w)
    (hrun : (execOp a.eval o).run P w = (callFunc f us).run P w) : OpTo P o a w (Good G st w v st') := by
  intro next Q hn
  unfold Oper.wp
  rw [hrun, run_callFunc (callIso_plain hok hc)]
  exact (callIso_sound hok hc h ha).mono fun e w' ⟨u, he, hg⟩ => by subst he; exact hn u w' hg
theorem op_call (hok : CallOK P call) {c : Call} (ho : o.op = .call c) {f : FuncId} (hcal : c.callee = .value (.func f)) {xs : List LX} (hxs : compXs c.args.toList = some xs)
    (hc : callIso call f (xs.map (LX.ev t)) st = some (v, st')) (h : WR G st w) (hx : XsR G t a o.op) : OpTo P o a w (Good G st w v st') := by
  have ha := argsR_of (G := G) (t := t) (a := a) (l := c.args.toList) (fun x hm y hy => hx x (by rw [ho]; simp only [Op.operands, Call.operands, Array.mem_append]; exact .inr (by simpa using hm)) y hy) hxs
  refine opTo_call hok ha hc h ?_
  have : (c.args.toList.map a.eval).toArray = c.args.map a.eval := by apply Array.ext'; simp
  rw [this]
  simp [execOp, ho, resolve, hcal, Act.eval, Deferred.ofValue, invoke]
theorem op_callv (hok : CallOK P call) {c : Call} (ho : o.op = .call c) {tt : Nat} (hcal : c.callee = .value (.tmp tt)) {xs : List LX} (hxs : compXs c.args.toList = some xs)
    {g : FuncId} {first captured : List LV} (hf : (LX.tmp tt).ev t = .fn (.func g) first captured) 
    (hc : callIso call g (first ++ xs.map (LX.ev t) ++ captured) st = some (v, st')) (h : WR G st w) (hx : XsR G t a o.op) : OpTo P o a w (Good G st w v st') := by
  have ha := argsR_of (G := G) (t := t) (a := a) (l := c.args.toList) (fun x hm y hy => hx x (by rw [ho]; simp only [Op.operands, Call.operands, Array.mem_append]; exact .inr (by simpa using hm)) y hy) hxs
  have h1 := hx (.tmp tt) (by rw [ho]; simp [Op.operands, Call.operands, hcal]) (.tmp tt) rfl
  rw [hf] at h1
  obtain ⟨vf, vc, hu, s1, s2, hvf, hvc⟩ := h1.fn_inv
  refine opTo_call hok (argsR_append (argsR_append (⟨s1, hvf⟩ : ArgsR G first vf) ha) (⟨s2, hvc⟩ : ArgsR G captured vc)) hc h ?_
  have : (c.args.toList.map a.eval).toArray = c.args.map a.eval := by apply Array.ext'; simp
  rw [this]
  simp [execOp, ho, resolve, hcal, hu, Deferred.ofValue, invoke]
theorem op_i2i {src dst : TypeId} {x : Operand} (ho : o.op = .convert src dst x) {k0 k : IntKind} (hs : P.underlying src = some (.int k0)) (hd : P.underlying dst = some (.int k))
    {y : LX} (hy : compX x = some y) {j : IntKind} {n : Int} (hv : y.ev t = .p (.int j n)) (h : WR G st w) (hx : XsR G t a o.op) : OpTo P o a w (Good G st w (.p (.int k (k.wrap n))) st) := by
  have h1 := hx x (by rw [ho]; simp [Op.operands]) y hy
  rw [hv] at h1
  refine opTo_value (u := .int k (k.wrap n)) (w' := w) ?_ (.same h (.p (.int _ _)))
  simp [execOp, ho, h1.int_inv, convert, run_underlying hs, run_underlying hd, Conv.intToInt]
theorem op_s2s {src dst : TypeId} {x : Operand} (ho : o.op = .convert src dst x) (hs : P.underlying src = some .string) (hd : P.underlying dst = some .string)
    {y : LX} (hy : compX x = some y) {s : List UInt8} (hv : y.ev t = .p (.str s)) (h : WR G st w) (hx : XsR G t a o.op) : OpTo P o a w (Good G st w (.p (.str s)) st) := by
  have h1 := hx x (by rw [ho]; simp [Op.operands]) y hy
  rw [hv] at h1
  refine opTo_value (u := .string ⟨s.toArray⟩) (w' := w) ?_ (.same h (.p (.str _)))
  simp [execOp, ho, h1.str_inv, convert, run_underlying hs, run_underlying hd]
theorem lcv_int {k : IntKind} {x : LV} {q : PV} (h : lcv (.int k) x = some q) : ∃ j n, x = .p (.int j n) ∧ q = .int k (k.wrap n) := by
  cases x with
  | p v => cases v <;> simp [lcv, LV.asSl] at h; exact ⟨_, _, rfl, h.symm⟩
  | _ => simp [lcv] at h
theorem lcv_str {x : LV} {q : PV} (h : lcv .str x = some q) : ∃ s, x = .p (.str s) ∧ q = .str s := by
  cases x with
  | p v => cases v <;> simp [lcv, LV.asSl] at h; exact ⟨_, rfl, h.symm⟩
  | _ => simp [lcv] at h
theorem lcv_s2b {x : LV} {q : PV} (h : lcv .s2b x = some q) : ∃ s, x = .p (.str s) ∧ s.length ≤ 140737488355328 ∧ q = .sl (bs s) := by
  cases x with
  | p v => cases v <;> simp [lcv, LV.asSl] at h; exact ⟨_, rfl, h.1, h.2.symm⟩
  | _ => simp [lcv] at h
theorem lcv_b2s {x : LV} {q : PV} (h : lcv .b2s x = some q) : ∃ es l, x.asSl = some es ∧ unbs es = some l ∧ q = .str l := by
  have e : lcv .b2s x = (match x.asSl with
    | some es => match unbs es with
      | some l => some (.str l)
      | none => none
    | none => none) := by
    cases x with
    | p v => cases v <;> rfl
    | _ => rfl
  rw [e] at h
  split at h
  · split at h
    · cases h; exact ⟨_, _, ‹_›, ‹_›, rfl⟩
    · cases h
  · cases h
theorem mlook_inv {k : PV} {x : LV} {r : Option LV} (h : mlook st k x = some r) : (x = .p .nilm ∧ r = none) ∨ ∃ q kv, x = .mp q ∧ st[q]? = some (.map kv) ∧ mfind k kv = some r := by
  unfold mlook at h
  split at h
  · cases h; exact .inl ⟨rfl, rfl⟩
  · split at h
    · exact .inr ⟨_, _, rfl, ‹_›, h⟩
    · cases h
  · cases h
theorem op_sound0 (hok : CallOK P call) {r : Bool} {lop : LOp} (hc : compOp0 P r o.op = some lop) (hs : opStep call t st lop = some (v, st')) (h : WR G st w) (hx : XsR G t a o.op) :
    OpTo P o a w (Good G st w v st') := by
  cases hop : o.op
  case move x =>
    simp only [hop, compOp0] at hc
    split at hc <;> cases hc
    simp only [opStep, Option.some.injEq, Prod.mk.injEq] at hs
    obtain ⟨rfl, rfl⟩ := hs
    exact op_mv (.inl hop) ‹_› h hx
  case assign x =>
    simp only [hop, compOp0] at hc
    split at hc <;> cases hc
    simp only [opStep, Option.some.injEq, Prod.mk.injEq] at hs
    obtain ⟨rfl, rfl⟩ := hs
    exact op_mv (.inr hop) ‹_› h hx
  case pick c x y =>
    simp only [hop, compOp0] at hc
    split at hc <;> cases hc
    simp only [opStep] at hs
    split at hs <;> cases hs
    exact op_pick hop ‹_› ‹_› ‹_› h hx ‹_›
  case alloc e =>
    simp only [hop, compOp0] at hc
    split at hc <;> cases hc
    simp only [opStep, Option.some.injEq, Prod.mk.injEq] at hs
    obtain ⟨rfl, rfl⟩ := hs
    exact op_alloc hop ‹_› h
  case box e x =>
    simp only [hop, compOp0] at hc
    split at hc <;> cases hc
    simp only [opStep] at hs
    split at hs <;> cases hs
    exact op_box hop ‹_› ‹_› h hx
  case build ty parts =>
    simp only [hop, compOp0] at hc
    split at hc
    · split at hc
      · split at hc <;> cases hc
        simp only [opStep] at hs
        split at hs
        · split at hs <;> cases hs
          exact op_build_struct hop ‹_› ‹_› ‹_› ‹_› ‹_› ‹_› h hx
        · cases hs
      · cases hc
    · split at hc
      · split at hc <;> cases hc
        simp only [opStep] at hs
        split at hs
        · split at hs <;> cases hs
          exact op_build_array hop ‹_› ‹_› ‹_› ‹_› ‹_› ‹_› h hx
        · cases hs
      · cases hc
    · cases hc
  case buildSlice ty len parts =>
    simp only [hop, compOp0] at hc
    split at hc
    · split at hc
      · split at hc
        · rename_i hcond
          cases hc
          simp only [opStep] at hs
          split at hs
          · cases hs
          · split at hs
            · cases hs
            · obtain ⟨r1, r2⟩ := op_mkrow hop ‹_› ‹_› ‹_› ‹_› hcond.1 hcond.2.1 hcond.2.2 ‹_› ‹_› h hx
              split at hs
              · cases hs; exact r1
              · split at hs
                · cases hs; exact r2 _ ‹_›
                · cases hs; exact r1
        · cases hc
      · cases hc
    · cases hc
  case load ty x =>
    simp only [hop, compOp0] at hc
    split at hc
    · split at hc
      · cases hc
        simp only [opStep] at hs
        split at hs
        · split at hs <;> cases hs
          exact op_load hop ‹_› ‹_› ‹_› ‹_› ‹_› h hx
        · cases hs
      · cases hc
    · cases hc
  case store ty x y =>
    simp only [hop, compOp0] at hc
    split at hc
    · cases hc
      simp only [opStep] at hs
      split at hs
      · split at hs
        · split at hs <;> cases hs
          exact op_store hop ‹_› ‹_› ‹_› ‹_› ‹_› ‹_› h hx
        · cases hs
      · cases hs
    · cases hc
  case nilCheck x =>
    simp only [hop, compOp0] at hc
    split at hc <;> cases hc
    simp only [opStep] at hs
    split at hs
    · cases hs; exact op_nilChk hop ‹_› ‹_› (.inl ⟨_, _, _, rfl⟩) h hx
    · cases hs; exact op_nilChk hop ‹_› ‹_› (.inr (.inl ⟨_, _, rfl⟩)) h hx
    · cases hs; exact op_nilChk hop ‹_› ‹_› (.inr (.inr ⟨_, _, _, rfl⟩)) h hx
    · cases hs
  case binOp op ty x y ty' =>
    simp only [hop, compOp0] at hc
    split at hc
    · cases hc
      simp only [opStep] at hs
      split at hs <;> cases hs
      exact op_bin hop ‹_› ‹_› ‹_› h hx
    · cases hc
      simp only [opStep] at hs
      split at hs <;> cases hs
      exact op_bin hop ‹_› ‹_› ‹_› h hx
    · split at hc
      · cases hc
        simp only [opStep] at hs
        split at hs <;> cases hs
        exact op_beq (neg := false) hop ‹_› ‹_› ‹_› ‹_› h hx
      · cases hc
        simp only [opStep] at hs
        split at hs <;> cases hs
        exact op_beq (neg := true) hop ‹_› ‹_› ‹_› ‹_› h hx
      · cases hc
    · split at hc
      · cases hc
        simp only [opStep] at hs
        split at hs <;> cases hs
        exact op_peq (neg := false) hop ‹_› ‹_› ‹_› ‹_› h hx
      · cases hc
        simp only [opStep] at hs
        split at hs <;> cases hs
        exact op_peq (neg := true) hop ‹_› ‹_› ‹_› ‹_› h hx
      · cases hc
    · split at hc
      · rename_i hfl
        split at hc
        · cases hc
          simp only [opStep] at hs
          split at hs
          · split at hs <;> cases hs
            exact op_seq (neg := false) hop ‹_› hfl ‹_› ‹_› ‹_› ‹_› ‹_› h hx
          · cases hs
        · cases hc
          simp only [opStep] at hs
          split at hs
          · split at hs <;> cases hs
            exact op_seq (neg := true) hop ‹_› hfl ‹_› ‹_› ‹_› ‹_› ‹_› h hx
          · cases hs
        · cases hc
      · cases hc
    · exact op_nil hop hc hs h hx
  case unOp op ty x =>
    simp only [hop, compOp0] at hc
    split at hc <;> cases hc
    simp only [opStep] at hs
    split at hs <;> cases hs
    exact op_un hop ‹_› ‹_› h hx
  case convert src dst x =>
    simp only [hop, compOp0] at hc
    split at hc
    · cases hc
      simp only [opStep] at hs
      split at hs
      · rename_i q hq
        cases hs
        obtain ⟨j, n, e, rfl⟩ := lcv_int hq
        exact op_i2i hop ‹_› ‹_› ‹_› e h hx
      · cases hs
    · cases hc
      simp only [opStep] at hs
      split at hs
      · rename_i q hq
        cases hs
        obtain ⟨j, e, rfl⟩ := lcv_str hq
        exact op_s2s hop ‹_› ‹_› ‹_› e h hx
      · cases hs
    · split at hc
      · split at hc
        · cases hc
          simp only [opStep] at hs
          split at hs
          · rename_i q hq
            cases hs
            obtain ⟨j, e, hl, rfl⟩ := lcv_s2b hq
            exact op_s2b hop ‹_› ‹_› ‹_› ‹_› e hl h hx
          · cases hs
        · cases hc
      · cases hc
    · split at hc
      · cases hc
        simp only [opStep] at hs
        split at hs
        · rename_i q hq
          cases hs
          obtain ⟨es, l, e1, e2, rfl⟩ := lcv_b2s hq
          exact op_b2s hop ‹_› ‹_› ‹_› ‹_› e1 e2 h hx
        · cases hs
      · cases hc
    · split at hc
      · rename_i hsd
        split at hc
        · cases hc
          simp only [opStep] at hs
          split at hs
          · split at hs
            · split at hs
              · split at hs <;> cases hs
                exact op_retire hop (by simpa using hsd) ‹_› ‹_› ‹_› ‹_› ‹_› ‹_› ‹_› ‹_› h hx
              · cases hs
            · cases hs
          · cases hs
        · cases hc
      · cases hc
    · cases hc
  case makeFunc fn first captured =>
    simp only [hop] at hc
    cases fn <;> simp only [compOp0] at hc <;> try cases hc
    split at hc
    · split at hc <;> cases hc
      simp only [opStep, Option.some.injEq, Prod.mk.injEq] at hs
      obtain ⟨rfl, rfl⟩ := hs
      exact op_fn hop ‹_› ‹_› h hx
    · split at hc <;> cases hc
      simp only [opStep, Option.some.injEq, Prod.mk.injEq] at hs
      obtain ⟨rfl, rfl⟩ := hs
      exact op_fnm hop ‹_› ‹_› h hx
  case makeInterface ty x =>
    simp only [hop, compOp0] at hc
    split at hc
    · cases hc
    · rename_i d y hni hd hy
      cases hc
      simp only [opStep] at hs
      split at hs <;> cases hs
      exact op_iface hop hd (fun ms e => hni ms (by first | exact e | (rw [← e]; exact hd) | (rw [hd, e]))) hy h hx
    · cases hc
  case makeMap ty res =>
    simp only [hop] at hc
    cases res <;> simp only [compOp0] at hc <;> cases hc
    simp only [opStep, Option.some.injEq, Prod.mk.injEq] at hs
    obtain ⟨rfl, rfl⟩ := hs
    exact op_mkmap hop h
  case makeSlice ty l c =>
    simp only [hop, compOp0] at hc
    split at hc
    · split at hc
      · cases hc
        simp only [opStep] at hs
        split at hs
        · split at hs
          · rename_i hcond
            split at hs
            · rename_i h0
              cases hs
              exact op_mkslice hop ‹_› ‹_› ‹_› ‹_› ‹_› ‹_› ‹_› hcond h hx (.inl ⟨h0.1, h0.2, rfl, rfl⟩)
            · split at hs
              · rename_i h0
                cases hs
                exact op_mkslice hop ‹_› ‹_› ‹_› ‹_› ‹_› ‹_› ‹_› hcond h hx (.inr ⟨h0, rfl, rfl⟩)
              · cases hs
          · cases hs
        · cases hs
      · cases hc
    · cases hc
  case slice ty x lo hi mx =>
    simp only [hop, compOp0] at hc
    split at hc
    · cases hc
      simp only [opStep] at hs
      split at hs
      · split at hs
        · rename_i q hq
          cases hs
          simp only [lslice] at hq
          split at hq
          · cases hq
          · rename_i hmx
            split at hq
            · split at hq <;> cases hq
              exact op_slice_str hop ‹_› ‹_› ‹_› ‹_› ‹_› ‹_› (by simpa using hmx) ‹_› ‹_› h hx
            · cases hq
        · cases hs
      · cases hs
    · split at hc
      · cases hc
        simp only [opStep] at hs
        split at hs
        · rename_i q hq
          cases hs
          unfold rslice at hq
          split at hq
          · rename_i o' off len e1
            split at hq
            · split at hq
              · rename_i hmx
                split at hq
                · split at hq
                  · split at hq
                    · split at hq
                      · split at hq <;> cases hq
                        exact op_slice_rs hop ‹_› ‹_› ‹_› ‹_› ‹_› ‹_› e1 (by cases hz : ‹Option LX› <;> simp_all) ‹_› ‹_› ‹_› ‹_› ‹_› ‹_› h hx
                      · cases hq
                    · split at hq <;> cases hq
                      exact op_slice_rs0 hop ‹_› ‹_› ‹_› ‹_› ‹_› ‹_› e1 (by cases hz : ‹Option LX› <;> simp_all) ‹_› ‹_› ‹_› ‹_› h hx
                  · cases hq
                · cases hq
              · rename_i hmx
                split at hq
                · cases hq
                · rename_i hho
                  split at hq
                  · split at hq
                    · split at hq
                      · rename_i _ m hm0 _ hh hh0 _ l hl0
                        have hg := op_slice_rsm hop ‹_› ‹_› ‹_› ‹_› ‹_› ‹_› e1 (isSome_map hmx) (notNone_map hho) ‹_› hm0 hh0 hl0 h hx
                        split at hq <;> cases hq
                        · rename_i hml; rw [if_pos hml] at hg; exact hg
                        · rename_i hml; rw [if_neg hml] at hg; exact hg
                      · cases hq
                    · cases hq
                  · cases hq
            · cases hq
          · rename_i tg n e1
            split at hq
            · cases hq
            · rename_i hnn
              split at hq
              · cases hq
                exact op_slice_gr hop ‹_› ‹_› ‹_› ‹_› ‹_› ‹_› e1 (by cases hz : ‹Option LX› <;> simp_all) (by cases hz : ‹Option LX› <;> simp_all) ‹_› h hx
              · cases hq
          · rename_i e1
            split at hq
            · exact op_slice_v hop ‹_› ‹_› ‹_› ‹_› ‹_› ‹_› (by rw [e1]; exact hq) (by rw [e1]; rfl) (by simp) h hx
            · rename_i hnn
              split at hq
              · cases hq
                exact op_slice_tight0 hop ‹_› ‹_› ‹_› ‹_› ‹_› ‹_› e1 (by cases hz : ‹Option LX› <;> simp_all) (by cases hz : ‹Option LX› <;> simp_all) ‹_› h hx
              · cases hq
          · split at hq
            · rename_i es hes
              split at hq
              · rename_i hall
                exact op_slice_v hop ‹_› ‹_› ‹_› ‹_› ‹_› ‹_› hq hes (fun e he => by simpa using List.all_eq_true.1 hall e he) h hx
              · cases hq
            · cases hq
        · cases hs
      · cases hc
    · cases hc
  case fieldAddr s x f =>
    simp only [hop, compOp0] at hc
    split at hc
    · split at hc
      · split at hc
        · split at hc
          · cases hc
          · cases hc
            simp only [opStep] at hs
            split at hs
            · cases hs; exact op_fieldAddr hop ‹_› ‹_› ‹_› ‹_› ‹_› h hx (.inl ⟨_, _, _, ‹_›, rfl⟩)
            · cases hs; exact op_fieldAddr hop ‹_› ‹_› ‹_› ‹_› ‹_› h hx (.inr ⟨_, _, ‹_›, rfl⟩)
            · cases hs
        · cases hc
      · cases hc
    · cases hc
  case field ty x f =>
    simp only [hop, compOp0] at hc
    split at hc
    · split at hc
      · split at hc
        · split at hc
          · cases hc
            simp only [opStep] at hs
            split at hs
            · split at hs
              · split at hs <;> cases hs
                exact op_field hop ‹_› ‹_› ‹_› ‹_› ‹_› ‹_› ‹_› ‹_› h hx
              · cases hs
            · cases hs
          · cases hc
        · cases hc
      · cases hc
    · cases hc
  case indexAddr ty x i =>
    simp only [hop, compOp0] at hc
    split at hc
    · split at hc
      · split at hc
        · cases hc
          simp only [opStep] at hs
          split at hs
          · cases hs
          · rename_i n hn
            split at hs
            · cases hs
            · rename_i h0
              split at hs
              · rename_i q off len e1
                split at hs
                · rename_i hlt
                  split at hs
                  · rename_i es e2
                    split at hs
                    · rename_i el e3
                      split at hs
                      · rename_i e4
                        cases hs
                        exact op_indexAddr hop ‹_› ‹_› ‹_› ‹_› hn (by omega) h hx (.inr ⟨q, off, len, es, el, e1, hlt, e2, e3, e4, rfl⟩)
                      · cases hs
                    · cases hs
                  · cases hs
                · cases hs
              · split at hs
                · rename_i es e1
                  split at hs
                  · rename_i el e2
                    split at hs
                    · rename_i e3
                      cases hs
                      exact op_indexAddr hop ‹_› ‹_› ‹_› ‹_› hn (by omega) h hx (.inl ⟨es, el, e1, e2, e3, rfl⟩)
                    · cases hs
                  · cases hs
                · cases hs
        · cases hc
      · cases hc
    · split at hc
      · split at hc
        · cases hc
          simp only [opStep] at hs
          split at hs
          · cases hs
          · rename_i n hn
            split at hs
            · rename_i h0
              split at hs
              · cases hs; exact op_arrAddr hop ‹_› ‹_› ‹_› ‹_› hn h0 h hx (.inl ⟨_, _, _, ‹_›, rfl⟩)
              · cases hs; exact op_arrAddr hop ‹_› ‹_› ‹_› ‹_› hn h0 h hx (.inr ⟨_, _, ‹_›, rfl⟩)
              · cases hs
            · cases hs
        · cases hc
      · cases hc
    · cases hc
  case index ty x i =>
    simp only [hop, compOp0] at hc
    split at hc
    · cases hc
      simp only [opStep] at hs
      split at hs
      · split at hs
        · split at hs <;> cases hs
          exact op_index hop ‹_› ‹_› ‹_› ‹_› ‹_› ‹_› ‹_› h hx
        · cases hs
      · cases hs
    · split at hc
      · split at hc
        · cases hc
          simp only [opStep] at hs
          split at hs
          · split at hs
            · rename_i h0
              split at hs <;> cases hs
              exact op_arrIndex hop ‹_› ‹_› ‹_› ‹_› ‹_› ‹_› ⟨h0.1, h0.2.1⟩ ‹_› h0.2.2 ‹_› h hx
            · cases hs
          · cases hs
        · cases hc
      · cases hc
    · cases hc
  case lookup ty x i ok =>
    simp only [hop, compOp0] at hc
    split at hc
    · split at hc
      · split at hc
        · split at hc
          · split at hc
            · cases hc
              simp only [opStep] at hs
              split at hs
              · cases hs
              · rename_i k hk
                split at hs
                · rename_i hf
                  split at hs
                  · rename_i v' hm
                    cases hs
                    exact op_lookup (r := some v') hop ‹_› ‹_› ‹_› ‹_› ‹_› ‹_› ‹_› hk hf (mlook_inv hm) h hx
                  · rename_i hm
                    cases hs
                    exact op_lookup (r := none) hop ‹_› ‹_› ‹_› ‹_› ‹_› ‹_› ‹_› hk hf (mlook_inv hm) h hx
                  · cases hs
                · cases hs
            · cases hc
          · cases hc
        · cases hc
      · cases hc
    · cases hc
  case mapUpdate ty m k x =>
    simp only [hop, compOp0] at hc
    split at hc
    · split at hc <;> cases hc
      simp only [opStep] at hs
      split at hs
      · split at hs
        · split at hs
          · split at hs <;> cases hs
            exact op_mapUpdate (.inl hop) ‹_› ‹_› ‹_› ‹_› ‹_› ‹_› ‹_› ‹_› ‹_› ‹_› h hx
          · cases hs
        · cases hs
      · cases hs
    · cases hc
  case insert ty m k x =>
    simp only [hop, compOp0] at hc
    split at hc
    · split at hc <;> cases hc
      simp only [opStep] at hs
      split at hs
      · split at hs
        · split at hs
          · split at hs <;> cases hs
            exact op_mapUpdate (.inr hop) ‹_› ‹_› ‹_› ‹_› ‹_› ‹_› ‹_› ‹_› ‹_› ‹_› h hx
          · cases hs
        · cases hs
      · cases hs
    · cases hc
  case range ty x =>
    simp only [hop, compOp0] at hc
    split at hc <;> cases hc
    simp only [opStep] at hs
    split at hs <;> cases hs
    exact op_range hop ‹_› ‹_› ‹_› h hx
  case next x b =>
    simp only [hop] at hc
    cases b <;> simp only [compOp0] at hc <;> try cases hc
    split at hc <;> cases hc
    simp only [opStep] at hs
    split at hs
    · split at hs
      · have := op_next (P := P) hop ‹_› ‹_› ‹_› h hx
        split at hs
        · rename_i hp
          cases hs
          rw [if_pos hp] at this
          exact this
        · rename_i hp
          cases hs
          rw [if_neg hp] at this
          exact this
      · cases hs
    · cases hs
  case extract x i =>
    simp only [hop, compOp0] at hc
    split at hc <;> cases hc
    simp only [opStep] at hs
    split at hs
    · split at hs <;> cases hs
      exact op_extract hop ‹_› ‹_› ‹_› h hx
    · cases hs
  case call c =>
    simp only [hop, compOp0] at hc
    obtain ⟨callee, args, argTypes⟩ := c
    have hinv := toR_inv hc
    clear hc
    rcases hinv with hc | ⟨az, bz, sx, xx, hc, rfl⟩ | ⟨fz, xz, hc, rfl⟩
    rotate_left 2
    · unfold compCall at hc
      simp only at hc
      split at hc
      · split at hc
        · split at hc <;> cases hc
          exact op_call (callFz_ok hok) hop rfl ‹_› (by simpa only [opStep] using hs) h hx
        · cases hc
      · split at hc <;> cases hc
      · cases hc
      · cases hc
      · exfalso
        repeat' (first | (cases hc; done) | split at hc)
    rotate_left 1
    · unfold compCall at hc
      simp only at hc
      split at hc
      · split at hc
        · split at hc <;> cases hc
        · cases hc
      · split at hc <;> cases hc
      · cases hc
      · cases hc
      · split at hc
        · rename_i ty u s x e1 e2
          obtain rfl : argTypes = #[ty, u] := by apply Array.ext'; simpa using e1
          obtain rfl : args = #[s, x] := by apply Array.ext'; simpa using e2
          split at hc
          · split at hc
            · split at hc
              · split at hc
                · cases hc
                  simp only [opStep] at hs
                  exact op_appendR hop ‹_› ‹_› (by intro k e; cases e) ‹_› ‹_› ‹_› ‹_› ‹_› hs h hx
                · cases hc
              · cases hc
            · split at hc
              · split at hc <;> cases hc
              · cases hc
            · split at hc
              · split at hc <;> cases hc
              · cases hc
            · cases hc
          · cases hc
        all_goals (repeat' (first | (cases hc; done) | split at hc))
    unfold compCall at hc
    simp only at hc
    split at hc
    · split at hc
      · split at hc <;> cases hc
        exact op_call hok hop rfl ‹_› (by simpa only [opStep] using hs) h hx
      · cases hc
    · split at hc <;> cases hc
      simp only [opStep] at hs
      split at hs
      · exact op_callv hok hop rfl ‹_› ‹_› hs h hx
      · cases hs
    · cases hc
    · cases hc
    · split at hc
      · -- append
        rename_i ty u s x e1 e2
        obtain rfl : argTypes = #[ty, u] := by apply Array.ext'; simpa using e1
        obtain rfl : args = #[s, x] := by apply Array.ext'; simpa using e2
        split at hc
        · split at hc
          · split at hc
            · split at hc
              · cases hc
                simp only [opStep] at hs
                unfold orA at hs
                split at hs
                · rename_i r hl
                  cases hs
                  exact op_append hop ‹_› ‹_› (by intro k e; cases e) ‹_› ‹_› ‹_› (.inl ⟨_, rfl⟩) ‹_› ‹_› hl (by intro e; cases e) h hx
                · exact op_appendR hop ‹_› ‹_› (by intro k e; cases e) ‹_› ‹_› ‹_› ‹_› ‹_› hs h hx
              · cases hc
            · cases hc
          · split at hc
            · split at hc
              · rename_i hcond
                cases hc
                simp only [opStep] at hs
                unfold orA at hs
                split at hs
                · rename_i r hl
                  cases hs
                  exact op_append hop ‹_› ‹_› (by intro k e; cases e) ‹_› ‹_› hcond.1 (.inr ⟨rfl, hcond.2.1⟩) ‹_› ‹_› hl (fun _ => hcond.2.1) h hx
                · exact op_appendR hop ‹_› ‹_› (by intro k e; cases e) ‹_› ‹_› hcond.1 ‹_› ‹_› hs h hx
              · cases hc
            · cases hc
          · split at hc
            · split at hc
              · rename_i hcond
                cases hc
                simp only [opStep] at hs
                split at hs
                · exact op_grow hop ‹_› ‹_› ‹_› ‹_› hcond.1 hcond.2 ‹_› ‹_› ‹_› ‹_› hs h hx
                · cases hs
              · cases hc
            · cases hc
          · cases hc
        · cases hc
      · -- len
        rename_i ty x e1 e2
        obtain rfl : argTypes = #[ty] := by apply Array.ext'; simpa using e1
        obtain rfl : args = #[x] := by apply Array.ext'; simpa using e2
        split at hc
        · cases hc
          simp only [opStep, Option.some.injEq, Prod.mk.injEq] at hs
          obtain ⟨rfl, rfl⟩ := hs
          exact op_constLen hop ‹_› h
        · cases hc
          simp only [opStep] at hs
          split at hs <;> cases hs
          exact op_len hop ‹_› h hx (.inl ⟨‹_›, _, ‹_›, rfl⟩)
        · cases hc
          simp only [opStep] at hs
          split at hs
          · cases hs
            exact op_len hop ‹_› h hx (.inr (.inl ⟨⟨_, ‹_›⟩, .inr ⟨_, _, ‹_›⟩⟩))
          · split at hs <;> cases hs
            exact op_len hop ‹_› h hx (.inr (.inl ⟨⟨_, ‹_›⟩, .inl ⟨_, ‹_›, rfl⟩⟩))
        · cases hc
          simp only [opStep] at hs
          split at hs
          · cases hs
            exact op_len (n := 0) hop ‹_› h hx (.inr (.inr ⟨⟨_, _, ‹_›⟩, .inl ⟨‹_›, rfl⟩⟩))
          · split at hs <;> cases hs
            exact op_len hop ‹_› h hx (.inr (.inr ⟨⟨_, _, ‹_›⟩, .inr ⟨_, _, ‹_›, ‹_›, rfl⟩⟩))
          · cases hs
        · cases hc
      · -- clear
        rename_i ty x e1 e2
        obtain rfl : argTypes = #[ty] := by apply Array.ext'; simpa using e1
        obtain rfl : args = #[x] := by apply Array.ext'; simpa using e2
        split at hc
        · split at hc
          · cases hc
            simp only [opStep] at hs
            split at hs
            · split at hs
              · cases hs
                rename_i hz0
                subst hz0
                exact op_clear0 hop ‹_› ‹_› (.inl ⟨_, _, ‹_›⟩) h hx
              · rename_i hz0
                split at hs
                · split at hs
                  · rename_i hcnd
                    cases hs
                    exact op_clear hop ‹_› ‹_› ‹_› ‹_› hz0 ‹_› hcnd.1 hcnd.2.1 hcnd.2.2 h hx
                  · cases hs
                · cases hs
            · cases hs
              exact op_clear0 hop ‹_› ‹_› (.inr (.inl ‹_›)) h hx
            · cases hs
              exact op_clear0 hop ‹_› ‹_› (.inr (.inr ‹_›)) h hx
            · cases hs
          · cases hc
        · cases hc
      · -- cap
        rename_i ty x e1 e2
        obtain rfl : argTypes = #[ty] := by apply Array.ext'; simpa using e1
        obtain rfl : args = #[x] := by apply Array.ext'; simpa using e2
        split at hc
        · cases hc
          simp only [opStep] at hs
          split at hs <;> cases hs
          exact op_cap hop ‹_› ‹_› ‹_› h hx
        · cases hc
      · rename_i x y e2
        obtain rfl : args = #[x, y] := by apply Array.ext'; simpa using e2
        split at hc <;> cases hc
        simp only [opStep] at hs
        split at hs <;> cases hs
        exact op_mx hop ‹_› ‹_› ‹_› ‹_› h hx
      · rename_i x y e2
        obtain rfl : args = #[x, y] := by apply Array.ext'; simpa using e2
        split at hc <;> cases hc
        simp only [opStep] at hs
        split at hs <;> cases hs
        exact op_mn hop ‹_› ‹_› ‹_› ‹_› h hx
      · -- delete
        rename_i ty u m k e1 e2
        obtain rfl : argTypes = #[ty, u] := by apply Array.ext'; simpa using e1
        obtain rfl : args = #[m, k] := by apply Array.ext'; simpa using e2
        split at hc
        · split at hc <;> cases hc
          simp only [opStep] at hs
          split at hs
          · split at hs
            · split at hs
              · split at hs <;> cases hs
                exact op_delete hop ‹_› ‹_› ‹_› ‹_› ‹_› ‹_› ‹_› ‹_› ‹_› h hx
              · cases hs
            · cases hs
          · cases hs
        · cases hc
      · cases hc
  all_goals (simp [hop, compOp0] at hc)
theorem op_sound (hok : CallOK P call) {r : Bool} {lop : LOp} (hc : compOp P r o.op = some lop) (hs : opStep call t st lop = some (v, st')) (h : WR G st w) (hx : XsR G t a o.op) :
    OpTo P o a w (Good G st w v st') := by
  unfold compOp at hc
  split at hc
  · rename_i l hl
    cases hc
    exact op_sound0 hok hl hs h hx
  · cases hc; simp [opStep] at hs
end
end Go.LS
set_option linter.unusedVariables false
set_option linter.unusedSimpArgs false
namespace Go.LS
theorem owns_snoc0 {G : Gh} {st : List LObj} {x : LObj} (h1 : G.loc st.length = none) (h2 : ∀ f, G.hist st.length f = none) {o b : Nat} (ho : Owns G (st ++ [x]) o b) : Owns G st o b ∧ o < st.length := by
  have := Owns.lt ho
  simp at this
  rcases Nat.lt_or_ge o st.length with h' | h'
  · exact ⟨(Owns.snoc h' rfl (fun _ => rfl)).1 ho, h'⟩
  · obtain rfl : o = st.length := by omega
    unfold Owns at ho
    rw [get_snoc] at ho
    cases x <;> simp [h1, h2] at ho
theorem WR.snoc {G : Gh} {st : List LObj} {w : World} (h : WR G st w) (x : LObj) : WR G (st ++ [x]) w := by
  obtain ⟨h1, h2⟩ := h.dom st.length (Nat.le_refl _)
  refine ⟨h.fr, ?_, ?_, ?_, ?_, ?_, ?_, ?_, ?_⟩
  · intro o ho
    simp at ho
    exact h.dom o (by omega)
  · intro o es ho l hl
    rcases get_snoc_cases ho with ⟨_, ho⟩ | ⟨rfl, _⟩
    · exact h.row o es ho l hl
    · rw [h1] at hl; cases hl
  · intro o es ho l hl
    rcases get_snoc_cases ho with ⟨_, ho⟩ | ⟨rfl, _⟩
    · exact h.map o es ho l hl
    · rw [h1] at hl; cases hl
  · intro o s p ho l hl
    rcases get_snoc_cases ho with ⟨_, ho⟩ | ⟨rfl, _⟩
    · exact h.iter o s p ho l hl
    · rw [h1] at hl; cases hl
  · intro o n hw ho
    rcases get_snoc_cases ho with ⟨_, ho⟩ | ⟨rfl, _⟩
    · exact h.spare o n hw ho
    · exact ⟨fun f _ => h2 f, fun s hs => by rw [h2] at hs; cases hs⟩
  · intro o o' b ho ho'
    exact h.uniq o o' b (owns_snoc0 h1 h2 ho).1 (owns_snoc0 h1 h2 ho').1
  · intro o b ho hn
    obtain ⟨a, c⟩ := owns_snoc0 h1 h2 ho
    exact h.ownF o b a (fun ⟨n, hw, e⟩ => hn ⟨n, hw, by rw [get_snoc_lt c]; exact e⟩)
  · intro o y ho hy f
    rcases get_snoc_cases ho with ⟨_, ho⟩ | ⟨rfl, _⟩
    · exact h.kind o y ho hy f
    · exact h2 f
theorem Ext0.snoc {G : Gh} {st : List LObj} {w : World} (h : WR G st w) (x : LObj) : Ext0 G st w G (st ++ [x]) w := by
  obtain ⟨h1, h2⟩ := h.dom st.length (Nat.le_refl _)
  exact ⟨.refl G, rfl, rfl, rfl, Nat.le_refl _, fun _ _ _ => rfl, fun o b ho _ => ⟨o, (owns_snoc0 h1 h2 ho).1⟩, fun _ _ _ hv _ _ => hv⟩
def NewAt (G : Gh) (w : World) (x : LObj) (l : Loc) (ob : Obj) : Prop :=
  (∃ es size n arr e, x = .row es ∧ l = .row w.heap.size size n ∧ ob = .cells arr e ∧ arr.size = n * size ∧ es.length ≤ n ∧ rowOk G arr es size) ∨
  (∃ kv es clock, x = .map kv ∧ l = .map w.heap.size ∧ ob = .map es clock ∧ mapOk G es kv ∧ Stamps es clock)
theorem WR.place {G : Gh} {st : List LObj} {w : World} (h : WR G st w) {o : Nat} {x : LObj} (hs : st[o]? = some x) (hl : G.loc o = none) (hh : ∀ f, G.hist o f = none) (l : Loc) (ob : Obj) (hx : NewAt G w x l ob) :
    WR (G.addLoc o l) st (w.alloc ob) ∧ Ext0 G st w (G.addLoc o l) st (w.alloc ob) := by
  have holt : o < st.length := (List.getElem?_eq_some_iff.1 hs).1
  have hle : G.le (G.addLoc o l) := Gh.le_addLoc hl
  have hloc : ∀ q, q ≠ o → (G.addLoc o l).loc q = G.loc q := fun q hq => by simp [Gh.addLoc, hq]
  have hnew : (G.addLoc o l).loc o = some l := by simp [Gh.addLoc]
  have hns : ∀ n hw, x ≠ .spare n hw := by
    intro n hw e
    rcases hx with ⟨_, _, _, _, _, rfl, _⟩ | ⟨_, _, _, rfl, _⟩ <;> cases e
  have hoo : ∀ q b, Owns (G.addLoc o l) st q b → (q ≠ o ∧ Owns G st q b) ∨ (q = o ∧ b = w.heap.size) := by
    intro q b hq
    by_cases e : q = o
    · refine .inr ⟨e, ?_⟩
      subst e
      unfold Owns at hq
      rw [hs, hnew] at hq
      rcases hx with ⟨_, _, _, _, _, rfl, rfl, _⟩ | ⟨_, _, _, rfl, rfl, _⟩ <;> simp at hq
      · exact hq.symm
      · exact hq.symm
    · refine .inl ⟨e, ?_⟩
      unfold Owns at hq ⊢
      rw [hloc q e] at hq
      exact hq
  refine ⟨⟨?_, ?_, ?_, ?_, ?_, ?_, ?_, ?_, fun q y hq hy f => h.kind q y hq hy f⟩, ⟨hle, rfl, rfl, rfl, by simp, ?_, ?_, ?_⟩⟩
  · intro b q v hv
    rw [cell_old (h.fr_lt hv)]
    exact h.fr b q v hv
  · intro q hq
    exact ⟨by rw [hloc q (by omega)]; exact (h.dom q hq).1, (h.dom q hq).2⟩
  · intro q es hq l' hl'
    by_cases e : q = o
    · subst e
      rw [hs] at hq; cases hq
      rw [hnew] at hl'; cases hl'
      rcases hx with ⟨es', size, n, arr, e, hx, rfl, rfl, h1, h2, h3⟩ | ⟨_, _, _, hx, _⟩
      · cases hx
        exact ⟨_, size, n, rfl, arr, e, heap_alloc_new w _, h1, h2, h3.mono hle⟩
      · cases hx
    · rw [hloc q e] at hl'
      obtain ⟨blk, size, n, e, arr, ty, hb, r⟩ := h.row q es hq l' hl'
      exact ⟨blk, size, n, e, arr, ty, by rw [heap_old (lt_of_heap hb)]; exact hb, r.1, r.2.1, r.2.2.mono hle⟩
  · intro q kv hq l' hl'
    by_cases e : q = o
    · subst e
      rw [hs] at hq; cases hq
      rw [hnew] at hl'; cases hl'
      rcases hx with ⟨_, _, _, _, _, hx, _⟩ | ⟨kv', es, c, hx, rfl, rfl, h3⟩
      · cases hx
      · cases hx
        exact ⟨_, rfl, es, c, heap_alloc_new w _, ⟨h3.1.mono hle, h3.2⟩⟩
    · rw [hloc q e] at hl'
      obtain ⟨blk, e, es, c, hb, r⟩ := h.map q kv hq l' hl'
      exact ⟨blk, e, es, c, by rw [heap_old (lt_of_heap hb)]; exact hb, ⟨r.1.mono hle, r.2⟩⟩
  · intro q s pos hq l' hl'
    by_cases e : q = o
    · subst e
      rw [hs] at hq; cases hq
      rcases hx with ⟨_, _, _, _, _, hx, _⟩ | ⟨_, _, _, hx, _⟩ <;> cases hx
    · rw [hloc q e] at hl'
      obtain ⟨blk, e, hb⟩ := h.iter q s pos hq l' hl'
      exact ⟨blk, e, by rw [heap_old (lt_of_heap hb)]; exact hb⟩
  · intro q n hw hq
    obtain ⟨h1, h2⟩ := h.spare q n hw hq
    refine ⟨h1, fun s hs => ?_⟩
    obtain ⟨a, ⟨arr, e, hb, hz⟩, hf⟩ := h2 s hs
    exact ⟨a, ⟨arr, e, by rw [heap_old (lt_of_heap hb)]; exact hb, hz⟩, hf⟩
  · intro q q' b hq hq'
    rcases hoo q b hq with ⟨h1, h2⟩ | ⟨rfl, rfl⟩ <;> rcases hoo q' _ hq' with ⟨h3, h4⟩ | ⟨rfl, h5⟩
    · exact h.uniq q q' b h2 h4
    · have := h.owns_lt h2; omega
    · have := h.owns_lt h4; omega
    · rfl
  · intro q b hq hn off
    rcases hoo q b hq with ⟨h1, h2⟩ | ⟨rfl, rfl⟩
    · exact h.ownF q b h2 hn off
    · cases hf : (G.addLoc q l).F w.heap.size off with
      | none => rfl
      | some v => have := h.fr_lt (show G.F w.heap.size off = some v from hf); omega
  · intro b hb _; exact heap_old hb
  · intro q b hq hb
    rcases hoo q b hq with ⟨h1, h2⟩ | ⟨rfl, rfl⟩
    · exact ⟨q, h2⟩
    · omega
  · intro b off v hv _ _; exact hv
def Places (G : Gh) (w : World) (v : LV) (x : LObj) (o : Nat) (u : Value) (w' : World) : Prop :=
  ∃ l ob, NewAt G w x l ob ∧ w' = w.alloc ob ∧ VL (G.addLoc o l) v u
section
variable {P : Program} {G : Gh} {w : World} {t : List LV} {a : Act} {o : Oper}
theorem mk_alloc {e : TypeId} (ho : o.op = .alloc e) {z : List LV} (hz : zeroOf P e = some z) (q : Nat) : OpTo P o a w (Places G w (.ptr q 0 0) (.row [z]) q) := by
  unfold zeroOf at hz
  split at hz
  · rename_i i hi
    split at hz
    · rename_i zv hzv
      have hc := constCells_sound G hz
      simp at hc
      refine opTo_value (u := .pointer (some ⟨w.heap.size, 0, none⟩)) (w' := w.alloc (.cells zv.cells e)) ?_
        ⟨.row w.heap.size z.length 1, _, .inl ⟨[z], z.length, 1, zv.cells, e, rfl, rfl, rfl, by simpa using hc.1, by simp, hc.toRow⟩, rfl, vl_newPtr ..⟩
      simp [execOp, ho, Instr.alloc, run_zeroValue hi hzv, newVar, newRow]
    · cases hz
  · cases hz
theorem mk_box {e : TypeId} {x : Operand} (ho : o.op = .box e x) {y : LX} (hy : compX x = some y) {cs : List LV} (hcs : (y.ev t).cells? = some cs) (hx : XsR G t a o.op) (q : Nat) :
    OpTo P o a w (Places G w (.ptr q 0 0) (.row [cs]) q) := by
  have h1 := hx x (by rw [ho]; simp [Op.operands]) y hy
  have hc := cells_sound hcs h1
  refine opTo_value (u := .pointer (some ⟨w.heap.size, 0, none⟩)) (w' := w.alloc (.cells (a.eval x).cells e)) ?_
    ⟨.row w.heap.size cs.length 1, _, .inl ⟨[cs], cs.length, 1, _, e, rfl, rfl, rfl, by simpa using hc.1, by simp, hc.toRow⟩, rfl, vl_newPtr ..⟩
  simp [execOp, ho, Instr.box, newVar, newRow]
theorem mk_mkmap {ty : TypeId} (ho : o.op = .makeMap ty none) (q : Nat) : OpTo P o a w (Places G w (.mp q) (.map []) q) := by
  refine opTo_value (u := .map (some w.heap.size)) (w' := w.alloc (.map #[] 0)) ?_
    ⟨.map w.heap.size, _, .inr ⟨[], #[], 0, rfl, rfl, rfl, ⟨rfl, by simp⟩, .nil _⟩, rfl, .mp (by simp [Gh.addLoc])⟩
  simp [execOp, ho, Instr.makeMap]
theorem vl_newRs (G : Gh) (o blk size len n : Nat) (h : len ≤ maxLen) (hn : len = n) : VL (G.addLoc o (.row blk size n)) (.rs o 0 len) (.slice (some ⟨blk, 0, none⟩) len len) := by
  have hh := VL.rs (G := G.addLoc o (.row blk size n)) (o := o) (off := 0) (len := len) (cap := len) (blk := blk) (size := size) (n := n) (by simp [Gh.addLoc]) h (Nat.le_refl _) (by omega)
  simpa using hh
theorem mk_mkrow {ty e : TypeId} {len : Nat} {parts : Array (Nat × Operand)} (ho : o.op = .buildSlice ty len parts) (hty : P.underlying ty = some (.slice e)) {i : TypeInfo} (hi : P.info? e = some i)
    {z : List LV} (hz : zeroOf P e = some z) {ps : List (Nat × LX)} (hps : compParts parts.toList = some ps) (h0 : 0 < i.size) (hbig : len * i.size ≤ 16777216) (hzl : z.length = i.size)
    {qs : List (Nat × List LV)} (hq : evRow t ps = some qs) {es : List (List LV)} (hes : litRow i.size (List.replicate len z) qs = some es) (hx : XsR G t a o.op) (q : Nat) :
    OpTo P o a w (Places G w (.rs q 0 len) (.row es) q) := by
  obtain ⟨arr', hrun, h3, h2, hel⟩ := run_mkrow (w := w) ho hty hi hz hps h0 hbig hzl hq hes hx
  refine opTo_value hrun ⟨.row w.heap.size i.size es.length, _, .inl ⟨es, i.size, es.length, arr', e, rfl, rfl, rfl, h3, Nat.le_refl _, h2⟩, rfl, vl_newRs _ _ _ _ _ _ ?_ (by omega)⟩
  simp only [maxLen]
  have : len ≤ len * i.size := Nat.le_mul_of_pos_right _ h0
  omega
theorem mk_mkslice {ty e : TypeId} {l c : Operand} (ho : o.op = .makeSlice ty l c) (hty : P.underlying ty = some (.slice e)) {i : TypeInfo} (hi : P.info? e = some i)
    {z : List LV} (hz : zeroOf P e = some z) {l' c' : LX} (hl' : compX l = some l') (hc' : compX c = some c') {m : Int} (hm : (l'.ev t).asInt = some m) (hn : (c'.ev t).asInt = some m)
    (hc : 0 ≤ m ∧ m ≤ m ∧ m * i.bytes ≤ 281474976710656 ∧ m ≤ maxLen ∧ z.length = i.size ∧ 0 < i.size) (hx : XsR G t a o.op) (q : Nat) :
    OpTo P o a w (Places G w (.rs q 0 m.toNat) (.row (List.replicate m.toNat z)) q) := by
  obtain ⟨zv, hzr, hrun'⟩ := run_mkslice (w := w) ho hty hi hz hl' hc' hm hn hc hx
  obtain ⟨c1, c2, c3, c4, c5, c6⟩ := hc
  have hr := zeros_row hzr m.toNat (by omega)
  rw [c5] at hr
  refine opTo_value hrun' ⟨.row w.heap.size i.size m.toNat, _, .inl ⟨_, i.size, m.toNat, _, e, rfl, rfl, rfl, size_madeCells _ _, by simp, hr⟩, rfl, vl_newRs _ _ _ _ _ _ ?_ rfl⟩
  omega
def LOp.makes : LOp → Bool
  | .alloc _ | .box _ | .mkmap | .mkslice _ _ _ _ _ => true
  | .mkrow r _ _ _ _ => r
  | _ => false
theorem compNil_nm {P : Program} {op : BinOp} {t : TypeId} {x y : Operand} {lop : LOp} (h : compNil P op t x y = some lop) : lop.makes = false := by
  unfold compNil at h
  split at h
  · split at h <;> cases h <;> rfl
  · split at h <;> cases h <;> rfl
  · cases h
theorem maker_sound0 {call : CallF} {r : Bool} {lop : LOp} (hm : lop.makes = true) (hc : compOp0 P r o.op = some lop) {st st' : List LObj} {v : LV} (hs : opStep call t st lop = some (v, st')) (hx : XsR G t a o.op) :
    ∃ x, st' = st ++ [x] ∧ ((∃ es, x = .row es) ∨ (∃ kv, x = .map kv) → OpTo P o a w (Places G w v x st.length)) := by
  cases hop : o.op
  case alloc e =>
    simp only [hop, compOp0] at hc
    split at hc <;> cases hc
    simp only [opStep] at hs; cases hs
    exact ⟨_, rfl, fun _ => mk_alloc hop ‹_› _⟩
  case box e x =>
    simp only [hop, compOp0] at hc
    split at hc <;> cases hc
    simp only [opStep] at hs
    split at hs <;> cases hs
    exact ⟨_, rfl, fun _ => mk_box hop ‹_› ‹_› hx _⟩
  case buildSlice ty len parts =>
    simp only [hop, compOp0] at hc
    split at hc
    · split at hc
      · split at hc
        · rename_i hcond
          cases hc
          simp only [LOp.makes] at hm
          simp only [opStep, hm, if_true] at hs
          split at hs
          · cases hs
          · split at hs
            · cases hs
            · cases hs
              exact ⟨_, rfl, fun _ => mk_mkrow hop ‹_› ‹_› ‹_› ‹_› hcond.1 hcond.2.1 hcond.2.2 ‹_› ‹_› hx _⟩
        · cases hc
      · cases hc
    · cases hc
  case makeMap ty res =>
    simp only [hop] at hc
    cases res <;> simp only [compOp0] at hc <;> cases hc
    simp only [opStep] at hs; cases hs
    exact ⟨_, rfl, fun _ => mk_mkmap hop _⟩
  case makeSlice ty l c =>
    simp only [hop, compOp0] at hc
    split at hc
    · split at hc
      · cases hc
        simp only [opStep] at hs
        split at hs
        · split at hs
          · rename_i hcond
            split at hs
            · cases hs
              exact ⟨_, rfl, fun h => by rcases h with ⟨_, h⟩ | ⟨_, h⟩ <;> cases h⟩
            · split at hs
              · rename_i h0
                cases hs
                subst h0
                exact ⟨_, rfl, fun _ => mk_mkslice hop ‹_› ‹_› ‹_› ‹_› ‹_› ‹_› ‹_› hcond hx _⟩
              · cases hs
          · cases hs
        · cases hs
      · cases hc
    · cases hc
  all_goals
    exfalso
    simp only [hop] at hc
    first
      | (simp only [compOp0] at hc
         have hinv := toR_inv hc
         clear hc
         rcases hinv with hc | ⟨_, _, _, _, hc, rfl⟩ | ⟨_, _, hc, rfl⟩
         · unfold compCall at hc
           simp only at hc
           repeat' split at hc
           all_goals first | contradiction | (cases hc; cases hm; done) | (cases hc; done)
         · cases hm
         · cases hm)
      | (unfold compOp0 compCall at hc
         simp only at hc
         repeat' split at hc
         all_goals first | contradiction | (cases hc; cases hm; done) | (cases hc; done) | (rw [compNil_nm hc] at hm; cases hm; done))
      | (unfold compOp0 at hc
         simp only at hc
         repeat' split at hc
         all_goals first | contradiction | (cases hc; cases hm; done) | (cases hc; done) | (rw [compNil_nm hc] at hm; cases hm; done))
theorem maker_sound {call : CallF} {r : Bool} {lop : LOp} (hm : lop.makes = true) (hc : compOp P r o.op = some lop) {st st' : List LObj} {v : LV} (hs : opStep call t st lop = some (v, st')) (hx : XsR G t a o.op) :
    ∃ x, st' = st ++ [x] ∧ ((∃ es, x = .row es) ∨ (∃ kv, x = .map kv) → OpTo P o a w (Places G w v x st.length)) := by
  unfold compOp at hc
  split at hc
  · rename_i l hl
    cases hc
    exact maker_sound0 hm hl hs hx
  · cases hc; simp [opStep] at hs
end
end Go.LS
set_option linter.unusedVariables false
set_option linter.unusedSimpArgs false
namespace Go.LS
def compGuard (ops : Array Oper) (o : Oper) : Option (Option (Nat × Bool)) :=
  match o.guard with
  | none => some none
  | some (j, want) => match (ops[j]?).bind (·.dst) with
    | some d => some (some (d, want))
    | none => none
def compOper (P : Program) (r : Bool) (ops : Array Oper) (o : Oper) : Option LOper :=
  match compGuard ops o, compOp P r o.op with
  | some g, some op => some ⟨o.dst, op, g⟩
  | _, _ => none
def compOps (P : Program) (rs : Nat → Bool) (ops : Array Oper) : Nat → List Oper → Option (List LOper)
  | _, [] => some []
  | i, o :: r => match compOper P (rs i) ops o, compOps P rs ops (i + 1) r with
    | some x, some l => some (x :: l)
    | _, _ => none
def TR (G : Gh) (t : List LV) (a : Act) : Prop := a.tmps.size = t.length ∧ ∀ (i : Nat) v, t[i]? = some v → VL G v (a.tmps.getD i undef)
theorem TR.mono {G G' : Gh} (hG : G.le G') {t : List LV} {a : Act} (h : TR G t a) : TR G' t a := ⟨h.1, fun i v hv => (h.2 i v hv).mono hG⟩
theorem TR.get {G : Gh} {t : List LV} {a : Act} (h : TR G t a) (i : Nat) : VL G (t.getD i .und) (a.tmps.getD i undef) := by
  cases hi : t[i]? with
  | none => simp [List.getD, hi]; exact .und _
  | some v => simp only [List.getD, hi, Option.getD_some]; exact h.2 i v hi
theorem TR.xs {G : Gh} {t : List LV} {a : Act} (h : TR G t a) (op : Op) : XsR G t a op := by
  intro x _ y hy
  cases x with
  | tmp i => simp only [compX] at hy; cases hy; exact h.get i
  | const v =>
    simp only [compX] at hy
    split at hy <;> cases hy
    exact constLV_sound G ‹_›
  | func f =>
    simp only [compX] at hy; cases hy
    exact .fn _ #[] #[] rfl rfl (by simp) (by simp)
  | global g => simp [compX] at hy
theorem TR.put {G : Gh} {t : List LV} {a : Act} (h : TR G t a) {v : LV} {u : Value} (hv : VL G v u) (dst : Option Nat) : TR G (putT t dst v) (a.put dst u) := by
  cases dst with
  | none => exact h
  | some d =>
    refine ⟨by simp [putT, Act.put, h.1], fun i x hx => ?_⟩
    simp only [putT] at hx
    rcases get_set_cases hx with ⟨e, hx⟩ | ⟨rfl, hlt, rfl⟩
    · have := h.2 i x hx
      simp only [Act.put]
      rw [Array.getD_eq_getD_getElem?, Array.getElem?_setIfInBounds_ne (Ne.symm e), ← Array.getD_eq_getD_getElem?]
      exact this
    · simp only [Act.put]
      rw [Array.getD_eq_getD_getElem?, Array.getElem?_setIfInBounds_self_of_lt (by rw [h.1]; exact hlt)]
      exact hv
theorem gd_sound0 {G : Gh} {t : List LV} {a : Act} (hsz : a.tmps.size = t.length) {ops : Array Oper} {o : Oper} {g : Option (Nat × Bool)} (hg : compGuard ops o = some g)
    (hv : ∀ j want d, o.guard = some (j, want) → (ops[j]?).bind (·.dst) = some d → VL G (t.getD d .und) (a.tmps.getD d undef)) {b : Bool} (hb : gd t g = some b) :
    Region.wanted o (yielded ops a.tmps) = b := by
  unfold compGuard at hg
  unfold Region.wanted
  split at hg
  · rename_i e
    cases hg
    simp only [gd] at hb; cases hb
    rw [e]
  · rename_i j want e
    split at hg
    · rename_i d hd
      cases hg
      have hv := hv j want d e hd
      rw [e]
      simp only [gd] at hb
      split at hb
      · rename_i x hx
        cases hb
        rw [hx] at hv
        have hlt : d < t.length := by
          rcases Nat.lt_or_ge d t.length with h' | h'
          · exact h'
          · simp [List.getD, List.getElem?_eq_none h'] at hx
        have hlt' : d < a.tmps.size := by rw [hsz]; exact hlt
        have hu := hv.bool_inv
        have : a.tmps[d]? = some (.bool x) := by
          rw [Array.getD_eq_getD_getElem?, Array.getElem?_eq_getElem hlt'] at hu
          rw [Array.getElem?_eq_getElem hlt']
          simpa using hu
        simp [yielded, hd, this]
      · rename_i hx
        cases hb
        rw [hx] at hv
        obtain ⟨vs, hu, hs, _⟩ := hv.tup_inv
        have : yielded ops a.tmps j = none := by
          simp only [yielded, hd, Option.bind_some]
          cases hq : a.tmps[d]? with
          | none => rfl
          | some z =>
            have : z = .tuple vs := by rw [Array.getD_eq_getD_getElem?, hq] at hu; simpa using hu
            rw [this]
        simp [this]
      · cases hb
    · cases hg
theorem gd_sound {G : Gh} {t : List LV} {a : Act} (h : TR G t a) {ops : Array Oper} {o : Oper} {g : Option (Nat × Bool)} (hg : compGuard ops o = some g) {b : Bool} (hb : gd t g = some b) :
    Region.wanted o (yielded ops a.tmps) = b := gd_sound0 h.1 hg (fun _ _ d _ _ => h.get d) hb
theorem ops_sound {P : Program} {call : CallF} (hok : CallOK P call) {ops : Array Oper} {rs : Nat → Bool} {Q : Exit → Act → World → Prop} : ∀ (l : List Oper) (k : Nat) (los : List LOper) {t t' : List LV} {st st' : List LObj} {G : Gh} {w : World} {a : Act},
    (∀ i, l[i]? = ops[k + i]?) → compOps P rs ops k l = some los → runOps call los t st = some (t', st') → WR G st w → TR G t a →
    (∀ a' w' G', WR G' st' w' → TR G' t' a' → Ext0 G st w G' st' w' → a'.defers = a.defers → Q .normal a' w') → wpOps P ops Q (List.range' k l.length) a w
  | [], k, los, t, t', st, st', G, w, a, hl, hc, hr, h, ht, hq => by
    simp only [compOps] at hc; cases hc
    simp only [runOps, Option.some.injEq, Prod.mk.injEq] at hr
    obtain ⟨rfl, rfl⟩ := hr
    exact hq a w G h ht (Ext.refl ..).to0 rfl
  | o :: l, k, los, t, t', st, st', G, w, a, hl, hc, hr, h, ht, hq => by
    simp only [compOps] at hc
    split at hc
    · rename_i x lr hx hlr
      cases hc
      unfold compOper at hx
      split at hx
      · rename_i g op hg hop
        cases hx
        have hk : ops[k]? = some o := by have := hl 0; simpa using this.symm
        have hrest : ∀ i, l[i]? = ops[(k + 1) + i]? := fun i => by have := hl (i + 1); simpa [Nat.add_assoc, Nat.add_comm 1 i] using this
        simp only [List.length_cons, List.range'_succ, wpOps, hk]
        simp only [runOps] at hr
        split at hr
        · rename_i v st1 hstep
          unfold runOp at hstep
          simp only at hstep
          have go : ∀ (u : Value) (w1 : World) (G1 : Gh), WR G1 st1 w1 → VL G1 v u → Ext0 G st w G1 st1 w1 → wpOps P ops Q (List.range' (k + 1) l.length) (a.put o.dst u) w1 := by
            intro u w1 G1 h1 hv hx1
            refine ops_sound hok l (k + 1) lr hrest hlr hr h1 ((ht.mono hx1.le).put hv o.dst) ?_
            intro a' w' G' g1 g2 g3 g4
            exact hq a' w' G' g1 g2 (hx1.trans g3) (by rw [g4]; cases o.dst <;> rfl)
          split at hstep
          · rename_i hgd
            rw [if_pos (gd_sound ht hg hgd)]
            refine .inl (op_sound hok hop hstep h (ht.xs _) _ _ ?_)
            rintro u w1 ⟨G1, g1, g2, g3⟩
            exact go u w1 G1 g1 g2 g3.to0
          · rename_i hgd
            cases hstep
            have hw := gd_sound ht hg hgd
            rw [if_neg (by rw [hw]; simp)]
            exact go undef w G h (.unit G) (Ext.refl ..).to0
          · cases hstep
        · cases hr
      · cases hx
    · cases hc
def LX.tmps : LX → List Nat
  | .tmp t => [t]
  | .const _ => []
def LOp.reads : LOp → List Nat
  | .mv x | .retire x | .nileq _ _ x | .box x | .load _ _ x | .nilChk x | .un _ x | .cv _ x | .iface _ x | .fieldAddr _ x | .field _ _ _ x | .range x | .next x | .extract x _ | .len x | .slen x | .mlen x | .cap x => x.tmps
  | .pick a b c => a.tmps ++ b.tmps ++ c.tmps
  | .alloc _ | .mkmap | .const _ | .fail => []
  | .build _ ps => ps.flatMap fun p => p.2.2.tmps
  | .mkrow _ _ _ _ ps => ps.flatMap fun p => p.2.tmps
  | .store _ x y | .seq _ _ x y | .bin _ x y | .beq _ x y | .peq _ x y | .indexAddr _ x y | .arrAddr _ _ x y | .index x y | .arrIndex _ _ _ x y | .lookup _ _ _ x y | .delete _ x y | .append _ _ _ x y | .grow _ _ x y | .mx x y | .mn x y | .mkslice _ _ _ x y => x.tmps ++ y.tmps
  | .fn _ cs => cs.flatMap LX.tmps
  | .fnm _ fs cs => fs.flatMap LX.tmps ++ cs.flatMap LX.tmps
  | .clearS _ x => x.tmps
  | .appendR _ _ x y => x.tmps ++ y.tmps
  | .sslice x a b c | .slice _ x a b c => x.tmps ++ (a.map LX.tmps).getD [] ++ (b.map LX.tmps).getD [] ++ (c.map LX.tmps).getD []
  | .mapUpdate _ a b c => a.tmps ++ b.tmps ++ c.tmps
  | .call _ xs => xs.flatMap LX.tmps
  | .callz _ xs => xs.flatMap LX.tmps
  | .callv f xs => f.tmps ++ xs.flatMap LX.tmps
def liveOps : List LOper → List Nat → List Nat
  | [], out => out
  | o :: r, out =>
    let l := liveOps r out
    let l := match o.dst with | some d => l.filter (· != d) | none => l
    o.op.reads ++ (match o.guard with | some (j, _) => [j] | none => []) ++ l
def dedup (l : List Nat) : List Nat := l.foldl (fun acc x => if acc.contains x then acc else x :: acc) []
def live (ret : List Nat) : LCode → List Nat → List (Nat × List Nat) → List Nat
  | .skip, out, _ => out
  | .region ops, out, _ => dedup (liveOps ops out)
  | .drawn ops, out, _ => dedup (liveOps (ops.map (·.op)) out)
  | .seq a b, out, env => live ret a (live ret b out env) env
  | .cond x a b, out, env => dedup (x.tmps ++ live ret a out env ++ live ret b out env)
  | .both x a b c, out, env => dedup (x.tmps ++ live ret a (live ret c out env) env ++ live ret b (live ret c out env) env)
  | .block id _ c, out, env => live ret c out ((id, out) :: env)
  | .loop _ c, _, env => live ret c [] env
  | .exit id _, _, env => (env.lookup id).getD []
  | .ret _, _, _ => ret
  | .fail, _, _ => []
def annot (n : Nat) (ret : List Nat) : LCode → List Nat → List (Nat × List Nat) → LCode
  | .seq a b, out, env => .seq (annot n ret a (live ret b out env) env) (annot n ret b out env)
  | .cond x a b, out, env => .cond x (annot n ret a out env) (annot n ret b out env)
  | .both x a b c, out, env => .both x (annot n ret a (live ret c out env) env) (annot n ret b (live ret c out env) env) (annot n ret c out env)
  | .block id _ c, out, env => .block id ((List.range n).map fun i => out.contains i) (annot n ret c out ((id, out) :: env))
  | .loop _ c, _, env =>
    let l := live ret c [] env
    .loop ((List.range n).map fun i => l.contains i) (annot n ret c l env)
  | .exit id _, _, env => .exit id ((List.range n).map fun i => ((env.lookup id).getD []).contains i)
  | .ret _, _, _ => .ret ((List.range n).map fun i => ret.contains i)
  | c, _, _ => c
end Go.LS
