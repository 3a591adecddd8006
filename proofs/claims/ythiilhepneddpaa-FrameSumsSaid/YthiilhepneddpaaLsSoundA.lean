/- A slice's memory is given up to be never written again. -/
import Derived.Test.YthiilhepneddpaaLsSound9
import Derived.Test.YthiilhepneddpaaLsCall2
import Derived.Laws.StructEq
set_option linter.unusedVariables false
set_option linter.unusedSimpArgs false
namespace Go.LS
section ops
variable {P : Program} {G : Gh} {st st' : List LObj} {w : World} {t : List LV} {a : Act} {o : Oper} {v : LV}

theorem freeze_same (w : World) {b : Nat} {arr : Array Value} {e : TypeId} {fz : Nat × Nat} (hb : w.heap[b]? = some (.cells arr e fz)) (off n : Nat) (hn : n ≠ 0) :
    SameBut b w (w.freeze ⟨b, off, none⟩ n) ∧ ∃ fz', (w.freeze ⟨b, off, none⟩ n).heap[b]? = some (.cells arr e fz') := by
  unfold World.freeze
  rw [if_neg hn]
  refine ⟨⟨by simp, fun c hc => ?_, rfl, rfl, rfl⟩, ?_⟩
  · simp only [Array.getElem?_modify]
    rw [if_neg (Ne.symm hc)]
  · simp only [Array.getElem?_modify, if_true, hb]
    exact ⟨_, rfl⟩

theorem op_retire {src dst el s0 : TypeId} {x : Operand} (ho : o.op = .convert src dst x) (hsd : src = dst) (hs0 : P.underlying src = some (.slice s0)) (hd : P.underlying dst = some (.slice el)) {y : LX} (hy : compX x = some y)
    (he : P.underlying el = some (.int .u8)) {q off len : Nat} (hv : y.ev t = .rs q off len) {es : List (List LV)} (hs : st[q]? = some (.row es)) (hl : off + len ≤ es.length) {qs : List (List PV)}
    (hq : rowPV ((es.drop off).take len) = some qs) (h : WR G st w) (hx : XsR G t a o.op) : OpTo P o a w (Good G st w (.p (.sl qs)) (st.set q .dead)) := by
  have h1 := hx x (by rw [ho]; simp [Op.operands]) y hy
  rw [hv] at h1
  obtain ⟨blk, size, n, cap, hloc, hu, hm, hlc, hnn⟩ := h1.rs_inv
  obtain ⟨blk', size', n', e', arr, ty, hb, hz, hen, hr⟩ := h.row q es hs _ hloc
  cases e'
  obtain ⟨f1, fz', f2⟩ := freeze_same w hb arr.size 1 (by decide)
  obtain ⟨r1, r2⟩ := h.retire hs hloc hb f1 f2
  have hrun : (execOp a.eval o).run P w = .ok (.value (.slice (some ⟨blk, off * size, none⟩) len cap)) (w.freeze ⟨blk, arr.size, none⟩ 1) := by
    have hsh : w.shape? blk = some (ty, arr.size) := by simp [World.shape?, hb]
    subst hsd
    simp [execOp, ho, hu, convert, run_underlying hd, run_underlying he, markStringish, hsh]
  refine opTo_value hrun ⟨_, r1, .p ?_, r2⟩
  obtain ⟨q1, q2⟩ := rowPV_get hq
  have hlen : qs.length = len := by rw [q1]; simp; omega
  have hsz : ∀ e ∈ qs, e.length = size := rowPV_sized hq (fun e he => hr.1 e (List.mem_of_mem_drop (List.mem_of_mem_take he)))
  rw [← hlen]
  refine VP.mk (size := size) (by omega) hm hsz ?_
  intro i j p hp
  obtain ⟨c, hc1, hc2⟩ := q2 i j p hp
  have hc3 : at2 es (off + i) j = some c := by
    unfold at2 at hc1 ⊢
    rw [List.getElem?_take] at hc1
    split at hc1
    · rw [List.getElem?_drop] at hc1; exact hc1
    · simp at hc1
  obtain ⟨u, hu1, hu2, _⟩ := hr.2 (off + i) j c hc3
  refine ⟨u, ?_, (toPV_sound hc2 hu2).mono (Gh.le_addF ..).F⟩
  simp only [Gh.addF]
  have hF : G.F blk (off * size + i * size + j) = none := h.ownF q blk (by unfold Owns; rw [hs]; exact ⟨size, n, hloc⟩) (by rintro ⟨a, b, e⟩; rw [hs] at e; cases e) _
  rw [hF]
  simp only [if_true]
  rw [← hu1]
  congr 1
  rw [Nat.add_mul]
theorem pvEq_run {F : Nat → Nat → Option Value} {ft : TypeId} {kk : KK} {dd : TypeDesc} (hd : P.underlying ft = some dd) (hk : kk.desc dd) {a b : PV} (hf : kk.fits a = true) {u z : Value} {r : Bool} (hr : pvEq a b = some r)
    (ha : VP F a u) (hb : VP F b z) (d : Nat) (w : World) : (Op.equalIn (d + 1) ft u z).run P w = .ok r w ∧ (part ft #[u] 0).run P w = .ok u w := by
  have hna : ∀ v : Value, (part ft #[v] 0).run P w = .ok v w := by
    intro v
    have : aggB dd = false := by
      cases kk <;> simp only [KK.desc] at hk
      · obtain ⟨k, rfl⟩ := hk; rfl
      · subst hk; rfl
      · subst hk; rfl
    cases dd <;> simp [aggB] at this <;> simp [part, isAgg, run_underlying hd]
  refine ⟨?_, hna u⟩
  cases kk <;> cases a <;> simp only [KK.fits, Bool.false_eq_true] at hf <;> cases b <;> simp only [pvEq] at hr <;> try (cases hr; done)
  · obtain ⟨k, rfl⟩ := hk
    split at hr <;> cases hr
    subst_vars
    cases ha; cases hb
    exact run_equalIn_int w d ft _ k _ _ hd
  · simp only [KK.desc] at hk; subst hk
    cases hr
    cases ha; cases hb
    rw [run_equalIn_string w d ft _ _ hd]
    simp [ByteArray.toList_eq]
  · simp only [KK.desc] at hk; subst hk
    cases hr
    cases ha; cases hb
    exact run_equalIn_bool' w d ft _ _ hd

theorem part_at {ft : TypeId} {kk : KK} {dd : TypeDesc} (hd : P.underlying ft = some dd) (hk : kk.desc dd) {arr : Array Value} {off : Nat} {u : Value} (h : arr[off]? = some u) (w : World) : (part ft arr off).run P w = .ok u w := by
  have : aggB dd = false := by
    cases kk <;> simp only [KK.desc] at hk
    · obtain ⟨k, rfl⟩ := hk; rfl
    · subst hk; rfl
    · subst hk; rfl
  cases dd <;> simp [aggB] at this <;> simp [part, isAgg, run_underlying hd, h]

theorem eqFields_run {xs ys : Array Value} {cx cy : List LV} (hx : CellsR G cx xs) (hy : CellsR G cy ys) (d : Nat) (w : World) : ∀ {fs : List Field} {l : List (Nat × KK)} {r : Bool}, eqFs P fs = some l → eqCells cx cy l = some r →
    (Op.eqFields (d + 1) xs ys fs).run P w = .ok r w
  | [], l, r, hl, hr => by
    simp only [eqFs] at hl; cases hl
    simp only [eqCells] at hr; cases hr
    simp [Op.eqFields]
  | f :: fs, l, r, hl, hr => by
    simp only [eqFs] at hl
    split at hl
    · rename_i kk l' hkk hl'
      split at hl
      · cases hl
      · rename_i hn
        cases hl
        simp only [eqCells] at hr
        split at hr
        · rename_i a b ea eb
          split at hr
          · rename_i hf
            split at hr
            · rename_i p q hp hq
              cases hr
              obtain ⟨dd, hd, hk⟩ := keyOk_inv hkk
              obtain ⟨u, hu, hvu⟩ : ∃ u, xs[f.offset]? = some u ∧ VP G.F a u := by
                have hlt : f.offset < xs.size := by rw [hx.1]; exact (List.getElem?_eq_some_iff.1 ea).1
                obtain ⟨u, h1, h2, _⟩ := hx.2 _ _ ea
                exact ⟨u, h1, by cases h2 with | p h => exact h⟩
              obtain ⟨z, hz, hvz⟩ : ∃ u, ys[f.offset]? = some u ∧ VP G.F b u := by
                obtain ⟨u, h1, h2, _⟩ := hy.2 _ _ eb
                exact ⟨u, h1, by cases h2 with | p h => exact h⟩
              have hne : f.name ≠ "_" := by simpa using hn
              have hrest := eqFields_run hx hy d w hl' hq
              have he := (pvEq_run (P := P) hd hk hf hp hvu hvz d w).1
              simp only [Op.eqFields, Sem.run_ite, if_pos hne, Sem.run_bind, part_at hd hk hu, part_at hd hk hz, Result.andThen_ok, he]
              cases p
              · simp
              · simp [hrest]
            · cases hr
          · cases hr
        · cases hr
    · cases hl

theorem op_seq {neg : Bool} {ty ty' : TypeId} {x y : Operand} (ho : o.op = .binOp (if neg then .neq else .eql) ty x y ty') {fs : Array Field} (hty : P.underlying ty = some (.struct fs)) {l : List (Nat × KK)} (hl : flatEq P ty fs = some l)
    {x' y' : LX} (hx' : compX x = some x') (hy' : compX y = some y') {cx cy : List LV} (hvx : x'.ev t = .agg cx) (hvy : y'.ev t = .agg cy) {b : Bool} (hb : eqCells cx cy l = some b) (h : WR G st w) (hx : XsR G t a o.op) :
    OpTo P o a w (Good G st w (.p (.bool (b != neg))) st) := by
  have h1 := hx x (by rw [ho]; simp [Op.operands]) x' hx'
  have h2 := hx y (by rw [ho]; simp [Op.operands]) y' hy'
  rw [hvx] at h1
  rw [hvy] at h2
  obtain ⟨xs, u1, c1⟩ := h1.agg_inv
  obtain ⟨ys, u2, c2⟩ := h2.agg_inv
  unfold flatEq at hl
  split at hl
  · rename_i hc
    simp only [Bool.and_eq_true, beq_iff_eq] at hc
    have hfs : P.fieldsOf ty = fs := by simp [Program.fieldsOf, hty]
    have hrun := run_equalIn_struct w 9999 ty xs ys (by rw [hfs]; exact hty) hc.2
    rw [hfs, eqFields_run c1 c2 9998 w hl hb] at hrun
    refine opTo_value (u := .bool (b != neg)) (w' := w) ?_ (.same h (.p (.bool _)))
    cases neg
    · simp only [execOp, ho, u1, u2, Bool.false_eq_true, if_false, Sem.run_bind, run_eqGuard_agg w _ ty x y xs ys hc.1, Result.andThen_ok, run_eql_struct w, hrun, Sem.run_pure]
      simp
    · simp only [execOp, ho, u1, u2, if_true, Sem.run_bind, run_eqGuard_agg w _ ty x y xs ys hc.1, Result.andThen_ok, run_neq_struct w, hrun, Sem.run_pure]
      simp
  · cases hl

end ops
end Go.LS
