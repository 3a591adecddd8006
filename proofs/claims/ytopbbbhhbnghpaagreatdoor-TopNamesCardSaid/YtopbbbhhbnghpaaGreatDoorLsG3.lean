/- A small semantics of loaded Go code that the kernel can run, part 3. -/
import Derived.Test.YtopbbbhhbnghpaaGreatDoorLsG2
import Derived.Deep.DeepAppendWide
set_option linter.unusedVariables false
set_option linter.unusedSimpArgs false
namespace Go.LS
section ops
variable {P : Program} {G : Gh} {st st' : List LObj} {w : World} {t : List LV} {a : Act} {o : Oper} {v : LV}
theorem roomy_fits {need old bytes : Nat} (h : old < need) (hb : roomy need bytes = true) : Builtin.nextslicecap need old * bytes ≤ 281474976710656 := by
  simp only [roomy, Bool.or_eq_true, decide_eq_true_eq] at hb
  rcases hb with hb | hb
  · exact growslice_fits h hb
  · exact growslice_fits_wide h hb
def PCells (F : Nat → Nat → Option Value) (xs : List (List PV)) (size : Nat) (news : List Value) : Prop :=
  news.length = xs.length * size ∧ ∀ i j p, at2 xs i j = some p → ∃ y, news[i * size + j]? = some y ∧ VP F p y
theorem split_at {k m size : Nat} (h : k < m * size) : ∃ i j, i < m ∧ j < size ∧ k = i * size + j := by
  have hs : 0 < size := by rcases Nat.eq_zero_or_pos size with rfl | h'; · simp at h
                           · exact h'
  refine ⟨k / size, k % size, ?_, Nat.mod_lt _ hs, ?_⟩
  · exact (Nat.div_lt_iff_lt_mul hs).2 h
  · have := Nat.div_add_mod k size; rw [Nat.mul_comm] at this; exact this.symm
theorem PCells.one {F : Nat → Nat → Option Value} {xs : List (List PV)} {size : Nat} {news : List Value} (h : PCells F xs size news) (hs : ∀ e ∈ xs, e.length = size) : ∀ y ∈ news, y.oneCell' = true := by
  intro y hy
  obtain ⟨k, hk⟩ := List.getElem?_of_mem hy
  have hlt := (List.getElem?_eq_some_iff.1 hk).1
  rw [h.1] at hlt
  obtain ⟨i, j, h1, h2, rfl⟩ := split_at hlt
  have hl := hs xs[i] (List.getElem_mem _)
  obtain ⟨y', a1, a2⟩ := h.2 i j (xs[i][j]'(by omega)) (by simp [at2, h1])
  rw [hk] at a1; cases a1
  exact a2.one
theorem sized_iff {n : Nat} {es : List (List PV)} (h : sized n es = true) : ∀ e ∈ es, e.length = n := by
  intro e he
  have := List.all_eq_true.1 h e he
  simpa using this
theorem toPVs_len : ∀ {l : List LV} {q : List PV}, toPVs l = some q → q.length = l.length
  | [], q, h => by simp only [toPVs] at h; cases h; rfl
  | x :: r, q, h => by
    simp only [toPVs] at h
    split at h
    · rename_i p l _ hl; cases h; simp [toPVs_len hl]
    · cases h
theorem rowPV_get : ∀ {es : List (List LV)} {qs : List (List PV)}, rowPV es = some qs → qs.length = es.length ∧ ∀ i j p, at2 qs i j = some p → ∃ x, at2 es i j = some x ∧ x.toPV = some p
  | [], qs, h => by simp only [rowPV] at h; cases h; exact ⟨rfl, fun i j p h => by simp [at2] at h⟩
  | e :: r, qs, h => by
    simp only [rowPV] at h
    split at h
    · rename_i q l hq hl
      cases h
      obtain ⟨h1, h2⟩ := rowPV_get hl
      refine ⟨by simp [h1], fun i j p hp => ?_⟩
      cases i with
      | zero =>
        simp only [at2, List.getElem?_cons_zero, Option.bind_some] at hp ⊢
        clear h1 h2 hl
        induction e generalizing q j with
        | nil => simp only [toPVs] at hq; cases hq; simp at hp
        | cons x e ih =>
          simp only [toPVs] at hq
          split at hq
          · rename_i p' l' hx hl'
            cases hq
            cases j with
            | zero => simp at hp; subst hp; exact ⟨x, rfl, hx⟩
            | succ j => simp at hp; simpa using ih _ hl' j hp
          · cases hq
      | succ i => simp only [at2, List.getElem?_cons_succ] at hp ⊢; exact h2 i j p hp
    · cases h
theorem VP.str_inv {F : Nat → Nat → Option Value} {s : List UInt8} {u : Value} (h : VP F (.str s) u) : u = .string ⟨s.toArray⟩ := by cases h; rfl
theorem appended_sound (h : WR G st w) {str : Bool} {x : LV} {xs : List (List PV)} {size : Nat} (hx : appended str st x = some xs) (hs : ∀ e ∈ xs, e.length = size) {u : Value} (hu : VL G x u)
    (hstr : str = true → size = 1) : ∃ news, PCells G.F xs size news ∧ (Builtin.lenOf u).run P w = .ok xs.length w ∧
      ∀ w', w'.heap = w.heap → (Builtin.firstCells size xs.length u).run P w' = .ok news.toArray w' := by
  have vcase : ∀ es : List (List PV), es = xs → VP G.F (.sl es) u → ∃ news, PCells G.F xs size news ∧ (Builtin.lenOf u).run P w = .ok xs.length w ∧
      ∀ w', w'.heap = w.heap → (Builtin.firstCells size xs.length u).run P w' = .ok news.toArray w' := by
    rintro es rfl hv
    rcases hv.slice with ⟨rfl, rfl⟩ | ⟨size', b, off, cap, rfl, _⟩ | ⟨rfl, ad, cap, rfl, _⟩
    · refine ⟨[], ⟨by simp, fun i j p h => by simp [at2] at h⟩, by simp [Builtin.lenOf], fun w' _ => by simp [Builtin.firstCells]⟩
    · obtain ⟨_, h1, h2, hg⟩ := hv.get hs
      refine ⟨(List.range (es.length * size)).map fun k => (G.F b (off + k)).getD undef, ⟨by simp, fun i j p hp => ?_⟩, by simp [Builtin.lenOf], fun w' hw' => ?_⟩
      · obtain ⟨y, hy, hvp⟩ := hg i j p hp
        have := at2_lt hs hp
        have hlt : i * size + j < es.length * size := by
          have : (i + 1) * size ≤ es.length * size := Nat.mul_le_mul_right _ (by omega)
          rw [Nat.add_mul] at this; omega
        refine ⟨y, ?_, hvp⟩
        rw [List.getElem?_map, List.getElem?_range hlt]
        simp only [Option.map_some]
        rw [← Nat.add_assoc, hy]; rfl
      · refine run_firstCells_some (P := P) w' size es.length ⟨b, off, none⟩ _ cap _ (by simp) (fun k y hk => ?_)
        rw [List.getElem?_map] at hk
        by_cases hlt : k < es.length * size
        · rw [List.getElem?_range hlt] at hk
          simp only [Option.map_some, Option.some.injEq] at hk
          subst hk
          obtain ⟨i, j, hi, hj, rfl⟩ := split_at hlt
          have hl := hs es[i] (List.getElem_mem _)
          obtain ⟨y, hy, _⟩ := hg i j (es[i][j]'(by omega)) (by simp [at2, hi])
          have hc := h.fr _ _ _ hy
          rw [Addr.add_lit, ← Nat.add_assoc, hy]
          unfold World.cell? at hc ⊢
          rw [hw']
          exact hc
        · rw [List.getElem?_eq_none (by simpa using hlt)] at hk; cases hk
    · exact ⟨[], ⟨by simp, fun i j p h => by simp [at2] at h⟩, by simp [Builtin.lenOf], fun w' _ => run_firstCells_some (P := P) w' size 0 ad 0 cap [] (by simp) (fun k y hk => by simp at hk)⟩
  unfold appended at hx
  split at hx
  · rename_i s
    split at hx
    case isFalse => cases hx
    rename_i hstr'
    cases hx
    have := hstr hstr'
    subst this
    have hus := hu.str_inv
    subst hus
    refine ⟨s.map fun b => .int .u8 b.toNat, ⟨by simp [bs], fun i j p hp => ?_⟩, by simp [Builtin.lenOf, bs], fun w' _ => ?_⟩
    · have := at2_lt hs hp
      simp only [at2, bs, List.getElem?_map] at hp
      cases hq : s[i]? with
      | none => simp [hq] at hp
      | some b =>
        obtain rfl : j = 0 := by omega
        simp [hq] at hp; subst hp
        exact ⟨_, by simp [hq], .int _ _⟩
    · have : (⟨s.toArray⟩ : ByteArray).extract 0 s.length = ⟨s.toArray⟩ := by
        apply ByteArray.ext
        apply Array.ext'
        simp
      simp [Builtin.firstCells, bs, this]
  · rename_i q off len
    split at hx
    · rename_i es hes
      split at hx
      · rename_i hle
        obtain ⟨blk, size', n, cap, hloc, rfl, hm, hlc, hn⟩ := hu.rs_inv
        obtain ⟨blk', size'', n', e5, arr, ty, hb, hz, hmm, hr⟩ := h.row q es hes _ hloc
        cases e5
        obtain ⟨g1, g2⟩ := rowPV_get hx
        have hlen : xs.length = len := by rw [g1]; simp; omega
        -- the cells' size
        have hse : xs ≠ [] → size' = size := by
          intro hne
          obtain ⟨e, r, rfl⟩ := List.exists_cons_of_ne_nil hne
          have h1 := hs e (by simp)
          have : ((es.drop off).take len)[0]?.isSome = true := by
            have : 0 < ((es.drop off).take len).length := by rw [← g1]; simp
            simp [this]
            simpa using this
          obtain ⟨e', he'⟩ := Option.isSome_iff_exists.1 this
          have hm' := List.mem_of_mem_drop (List.mem_of_mem_take (List.mem_of_getElem? he'))
          have hl := hr.1 e' hm'
          rw [← hl, ← h1]
          -- e' and e have one length
          have : toPVs e' = some e := by
            cases hd : (es.drop off).take len with
            | nil => rw [hd] at he'; simp at he'
            | cons z zs =>
              rw [hd] at he' hx
              simp at he'; subst he'
              simp only [rowPV] at hx
              split at hx
              · rename_i q' l' hq' hl'; cases hx; exact hq'
              · cases hx
          exact (toPVs_len this).symm
        refine ⟨(arr.toList.drop (off * size)).take (len * size), ⟨?_, fun i j p hp => ?_⟩, by simp [Builtin.lenOf, hlen], fun w' hw' => ?_⟩
        · by_cases hne : xs = []
          · subst hne; simp at hlen; subst hlen; simp
          · have := hse hne; subst this
            have : (off + len) * size' ≤ n * size' := Nat.mul_le_mul_right _ (by omega)
            rw [Nat.add_mul] at this
            rw [hlen]
            simp only [List.length_take, List.length_drop, Array.length_toList]; omega
        · have hne : xs ≠ [] := by rintro rfl; simp [at2] at hp
          have := hse hne; subst this
          obtain ⟨x, hx1, hx2⟩ := g2 i j p hp
          have hlt := at2_lt hs hp
          have hx1' : at2 es (off + i) j = some x := by
            unfold at2 at hx1 ⊢
            rw [List.getElem?_take] at hx1
            split at hx1
            · rwa [List.getElem?_drop] at hx1
            · simp at hx1
          obtain ⟨y, a1, a2, _⟩ := hr.2 _ _ _ hx1'
          refine ⟨y, ?_, toPV_sound hx2 a2⟩
          have hlt2 : i * size' + j < len * size' := by
            have : (i + 1) * size' ≤ len * size' := Nat.mul_le_mul_right _ (by omega)
            rw [Nat.add_mul] at this; omega
          rw [List.getElem?_take, if_pos hlt2, List.getElem?_drop]
          simp only [Array.getElem?_toList]
          rw [← a1]; congr 1; rw [Nat.add_mul]; omega
        · rw [hlen]
          by_cases hne : xs = []
          · subst hne; simp at hlen; subst hlen
            simp [Builtin.firstCells, loadCells, loadCellsFrom]
          · have := hse hne; subst this
            have hb1 : (off + len) * size' ≤ n * size' := Nat.mul_le_mul_right _ (by omega)
            rw [Nat.add_mul] at hb1
            refine run_firstCells_some (P := P) w' size' len ⟨blk, off * size', none⟩ _ cap _ (by simp only [List.length_take, List.length_drop, Array.length_toList]; omega) (fun k y hk => ?_)
            rw [List.getElem?_take] at hk
            split at hk
            · rw [List.getElem?_drop] at hk
              simp only [Array.getElem?_toList] at hk
              rw [Addr.add_lit]
              unfold World.cell?
              rw [hw', hb]
              simpa using hk
            · cases hk
      · cases hx
    · cases hx
  · exact vcase xs rfl (asSl_sound hx hu)
theorem size_zeros (z : Array Value) (n : Nat) : (Builtin.zeroCells z n).size = n * z.size := by simp [Builtin.zeroCells]
theorem run_grow {ty u e rt : TypeId} {d : TypeDesc} (ht : P.underlying ty = some (.slice e)) (hd : P.underlying u = some d) (hdi : ∀ k, d ≠ .int k) {i : TypeInfo} (hi : P.info? e = some i) {z : Value} (hz : i.zero = some z)
    {base : Option Addr} {sLen sCap : Nat} {x : Value} {n : Nat} {olds news : List Value}
    (hlo : (Builtin.firstCells i.size sLen (.slice base sLen sCap)).run P w.drew = .ok olds.toArray w.drew) (hln : (Builtin.lenOf x).run P w = .ok n w) (hnew : (Builtin.firstCells i.size n x).run P w.drew = .ok news.toArray w.drew)
    (hg : sCap < sLen + n) (h63 : sLen + n ≤ maxLen) (hb : roomy (sLen + n) i.bytes = true) :
    (Builtin.append_ #[ty, u] rt #[.slice base sLen sCap, x]).run P w = .ok (.slice (some ⟨w.heap.size, 0, none⟩) (sLen + n) (grownCap w (sLen + n) sCap e))
      (w.drew.alloc (.cells (olds.toArray ++ news.toArray ++ Builtin.zeroCells z.cells (grownCap w (sLen + n) sCap e - (sLen + n))) e)) := by
  have hn : ¬ (sLen + n ≤ sCap) := by omega
  have h63' : ¬ (9223372036854775807 < ((sLen : Int) + (n : Int))) := by simp only [maxLen] at h63; omega
  have hfit := roomy_fits hg hb
  have h48' : ¬ (281474976710656 < Builtin.nextslicecap (sLen + n) sCap * i.bytes) := by omega
  have hu : (underlying u).run P w = .ok d w := run_underlying hd w
  have hzf : (d matches .int _) = false := by cases d <;> first | rfl | exact absurd rfl (hdi _)
  have hz' : (zeroValue e).run P w.drew = .ok z w.drew := run_zeroValue hi hz _
  have hzf2 : ∀ k, ¬ (d = .int k) := fun k => hdi k
  simp [Builtin.append_, run_underlying ht, hu, sizeOf, typeInfo, zeroValue, hi, hz, hln, hn, h63', h48', Question.forced, hlo, hnew, newRow, grownCap]
  congr 2
  rw [← Array.append_assoc]
  simp
theorem run_room {ty u e rt : TypeId} {d : TypeDesc} (ht : P.underlying ty = some (.slice e)) (hd : P.underlying u = some d) (hdi : ∀ k, d ≠ .int k) {i : TypeInfo} (hi : P.info? e = some i)
    {b off sLen sCap : Nat} {x : Value} {n : Nat} {news : List Value} {cur : Array Value} {ety : TypeId} (hb : w.heap[b]? = some (.cells cur ety (0, 0)))
    (hln : (Builtin.lenOf x).run P w = .ok n w) (hnew : (Builtin.firstCells i.size n x).run P w = .ok news.toArray w) (h1 : ∀ y ∈ news, y.oneCell' = true)
    (hroom : sLen + n ≤ sCap) (hfit : off + sLen * i.size + news.length ≤ cur.size) :
    (Builtin.append_ #[ty, u] rt #[.slice (some ⟨b, off, none⟩) sLen sCap, x]).run P w = .ok (.slice (some ⟨b, off, none⟩) (sLen + n) sCap)
      (w.setRow b (cur.toList.take (off + sLen * i.size) ++ news ++ cur.toList.drop (off + sLen * i.size + news.length)).toArray) := by
  have hst := run_storeCells_at P b (off + sLen * i.size) ety news 0 cur w hb (by simpa using hfit) h1
  simp only [Nat.add_zero] at hst
  have hu : (underlying u).run P w = .ok d w := run_underlying hd w
  have hzf2 : ∀ k, ¬ (d = .int k) := fun k => hdi k
  simp [Builtin.append_, run_underlying ht, hu, sizeOf, typeInfo, hi, hln, hroom, hnew, Addr.add_lit, hst]
theorem run_appendNone {ty u e rt : TypeId} {d : TypeDesc} (ht : P.underlying ty = some (.slice e)) (hd : P.underlying u = some d) (hdi : ∀ k, d ≠ .int k) {i : TypeInfo} (hi : P.info? e = some i)
    {base : Option Addr} {sLen sCap : Nat} {x : Value} (hle : sLen ≤ sCap)
    (hln : (Builtin.lenOf x).run P w = .ok 0 w) (hnew : (Builtin.firstCells i.size 0 x).run P w = .ok #[] w) :
    (Builtin.append_ #[ty, u] rt #[.slice base sLen sCap, x]).run P w = .ok (.slice base sLen sCap) w := by
  have hu : (underlying u).run P w = .ok d w := run_underlying hd w
  have hzf2 : ∀ k, ¬ (d = .int k) := fun k => hdi k
  cases base <;> simp [Builtin.append_, run_underlying ht, hu, sizeOf, typeInfo, hi, hln, hle, hnew, storeCells]
theorem vp_append {F F' : Nat → Nat → Option Value} (hF : ∀ b o v, F b o = some v → F' b o = some v) {es xs : List (List PV)} {size b off cap : Nat} (h1 : es.length + xs.length ≤ cap) (h2 : cap ≤ maxLen)
    (hes : ∀ e ∈ es, e.length = size) (hxs : ∀ e ∈ xs, e.length = size)
    (he : ∀ i j p, at2 es i j = some p → ∃ y, F' b (off + i * size + j) = some y ∧ VP F p y)
    (hx : ∀ i j p, at2 xs i j = some p → ∃ y, F' b (off + (es.length + i) * size + j) = some y ∧ VP F p y) :
    VP F' (.sl (es ++ xs)) (.slice (some ⟨b, off, none⟩) (es ++ xs).length cap) := by
  refine VP.mk (es := es ++ xs) (size := size) (by simpa using h1) h2 (fun e he' => (List.mem_append.1 he').elim (hes e) (hxs e)) ?_
  intro i j p hp
  rcases at2_append hp with ⟨_, h⟩ | ⟨hi, h⟩
  · obtain ⟨y, a, b⟩ := he i j p h; exact ⟨y, a, b.mono hF⟩
  · obtain ⟨y, a, b⟩ := hx _ j p h
    refine ⟨y, ?_, b.mono hF⟩
    rw [show es.length + (i - es.length) = i from by omega] at a
    exact a
theorem olds_sound (h : WR G st w) {es : List (List PV)} {size : Nat} (hs : ∀ e ∈ es, e.length = size) {base : Option Addr} {n cap : Nat} (hv : VP G.F (.sl es) (.slice base n cap)) :
    n = es.length ∧ ∃ olds, PCells G.F es size olds ∧ ∀ w', w'.heap = w.heap → (Builtin.firstCells size n (.slice base n cap)).run P w' = .ok olds.toArray w' := by
  have hn : n = es.length := by
    rcases hv.slice with ⟨rfl, hu⟩ | ⟨_, _, _, _, hu, _⟩ | ⟨rfl, _, _, hu, _⟩ <;> cases hu <;> rfl
  obtain ⟨olds, h1, h2, h3⟩ := appended_sound (P := P) h (str := false) (x := .p (.sl es)) (xs := es) (size := size) rfl hs (.p hv) (by intro e; cases e)
  exact ⟨hn, olds, h1, by rw [hn]; simpa [hn] using h3⟩
theorem VL.len {G : Gh} {v : LV} {b : Option Addr} {n m cap : Nat} (e : n = m) (h : VL G v (.slice b n cap)) : VL G v (.slice b m cap) := e ▸ h
theorem op_append {s x : Operand} {ty u e : TypeId} {d : TypeDesc} (ho : o.op = .call { callee := .builtin .append, args := #[s, x], argTypes := #[ty, u] })
    (ht : P.underlying ty = some (.slice e)) (hd : P.underlying u = some d) (hdi : ∀ k, d ≠ .int k) {i : TypeInfo} (hi : P.info? e = some i) {z : Value} (hz : i.zero = some z) (hzs : z.cells.size = i.size)
    (hstr : (∃ e', d = .slice e') ∨ (d = .string ∧ i.size = 1)) {s' x' : LX} (hs' : compX s = some s') (hx' : compX x = some x')
    {str : Bool} (hr : lappend str i.size i.bytes st (s'.ev t) (x'.ev t) = some (v, st')) (hstr2 : str = true → i.size = 1)
    (h : WR G st w) (hx : XsR G t a o.op) : OpTo P o a w (Good G st w v st') := by
  have hs1 := hx s (by rw [ho]; simp [Op.operands, Call.operands]) s' hs'
  have hx1 := hx x (by rw [ho]; simp [Op.operands, Call.operands]) x' hx'
  have key : ∀ (r : Value) (w' : World), (Builtin.append_ #[ty, u] o.type #[a.eval s, a.eval x]).run P w = .ok r w' → (execOp a.eval o).run P w = .ok (.value r) w' := by
    intro r w' hrun
    simp [execOp, ho, resolve, invoke, builtin, hrun]
  unfold lappend at hr
  split at hr
  · cases hr
  rename_i xs hap
  split at hr
  · cases hr
  rename_i hsz
  have hxs := sized_iff (n := i.size) (es := xs) (by simpa using hsz)
  obtain ⟨news, hn1, hn2, hn3⟩ := appended_sound (P := P) h hap hxs hx1 hstr2
  have hone := hn1.one hxs
  split at hr
  · -- a slice without room
    rename_i es heq
    rw [heq] at hs1
    obtain ⟨ad, hu, hvp⟩ := hs1.tight_inv
    rw [hu] at hvp hs1
    split at hr
    · rename_i hemp
      have : xs = [] := by simpa using hemp
      subst this
      have hnn : news = [] := List.eq_nil_of_length_eq_zero (by simpa using hn1.1)
      subst hnn
      cases hr
      refine opTo_value (key _ w ?_) (.same h (by rw [heq]; exact hs1))
      rw [hu]
      exact run_appendNone ht hd hdi hi (Nat.le_refl _) hn2 (hn3 w rfl)
    · rename_i hemp
      split at hr
      · rename_i hc
        obtain ⟨c1, c2, c3, c4⟩ := hc
        cases hr
        have hes := sized_iff c1
        obtain ⟨_, olds, ho1, ho2⟩ := olds_sound (P := P) h hes hvp
        have hpos : 0 < xs.length := by rcases xs with _ | _; · simp at hemp
                                        · simp
        have hrun := run_grow (P := P) (w := w) (rt := o.type) ht hd hdi hi hz (ho2 w.drew rfl) hn2 (hn3 w.drew rfl) (by omega) c3 c2
        generalize hcap : grownCap w (es.length + xs.length) es.length e = cap at hrun
        have hge : es.length + xs.length ≤ cap := by rw [← hcap]; exact grownCap_ge ..
        have hle : cap ≤ maxLen := by rw [← hcap]; exact grownCap_le_maxLen _ _ _ _ c3
        generalize harr : olds.toArray ++ news.toArray ++ Builtin.zeroCells z.cells (cap - (es.length + xs.length)) = arr at hrun
        have hasz : arr.size = (es.length + xs.length) * i.size + (cap - (es.length + xs.length)) * i.size := by
          rw [← harr]; simp only [Array.size_append, List.size_toArray, ho1.1, hn1.1, size_zeros, hzs, Nat.add_mul]
        have hw : WR G st w.drew := h.of_heap rfl
        obtain ⟨r1, r2⟩ := hw.newSpare arr e i.size ((es.length + xs.length) * i.size) (cap - (es.length + xs.length)) (es.length + xs.length) hasz
        refine opTo_value (key _ _ (by rw [hu]; exact hrun)) ⟨_, r1, ?_, (Ext.of_heap (w := w) (w' := w.drew) rfl rfl rfl rfl).trans r2⟩
        have hFn : ∀ k y, k < (es.length + xs.length) * i.size → arr[k]? = some y →
            ((G.addF w.drew.heap.size fun o => if o < (es.length + xs.length) * i.size then arr[o]? else none).addHist st.length (es.length + xs.length) ⟨w.drew.heap.size, (es.length + xs.length) * i.size, cap - (es.length + xs.length), i.size⟩).F w.heap.size k = some y := by
          intro k y hk hy
          simp only [Gh.addHist, Gh.addF]
          cases hg : G.F w.heap.size k with
          | some v => have := h.fr_lt hg; omega
          | none => simp [hk, hy]
        have hbd : ∀ i' j, i' < es.length + xs.length → j < i.size → i' * i.size + j < (es.length + xs.length) * i.size := by
          intro i' j h1 h2
          have : (i' + 1) * i.size ≤ (es.length + xs.length) * i.size := Nat.mul_le_mul_right _ (by omega)
          rw [Nat.add_mul] at this; omega
        have hvn := vp_append (F := G.F) (F' := ((G.addF w.drew.heap.size fun o => if o < (es.length + xs.length) * i.size then arr[o]? else none).addHist st.length (es.length + xs.length) ⟨w.drew.heap.size, (es.length + xs.length) * i.size, cap - (es.length + xs.length), i.size⟩).F)
          (fun b o v hv => by simp [Gh.addHist, Gh.addF, hv]) (es := es) (xs := xs) (size := i.size) (b := w.heap.size) (off := 0) (cap := cap) (by omega) hle hes hxs
          (fun i' j p hp => by
            obtain ⟨y, a1, a2⟩ := ho1.2 i' j p hp
            have hb := at2_lt hes hp
            refine ⟨y, hFn _ y (by simpa using hbd i' j (by omega) hb.2) ?_, a2⟩
            rw [← harr, Nat.zero_add]
            have := (List.getElem?_eq_some_iff.1 a1).1
            rw [Array.append_assoc, Array.getElem?_append_left (by simpa using this)]
            simpa using a1)
          (fun i' j p hp => by
            obtain ⟨y, a1, a2⟩ := hn1.2 i' j p hp
            have hb := at2_lt hxs hp
            refine ⟨y, hFn _ y (by simpa using hbd (es.length + i') j (by omega) hb.2) ?_, a2⟩
            rw [← harr, Nat.zero_add, Nat.add_mul]
            have := (List.getElem?_eq_some_iff.1 a1).1
            rw [Array.append_assoc, Array.getElem?_append_right (by simp [ho1.1]; omega), Array.getElem?_append_left (by simp [ho1.1]; omega)]
            simp only [List.size_toArray, ho1.1, List.getElem?_toArray]
            rw [← a1]; congr 1; omega)
        refine VL.len (List.length_append (as := es) (bs := xs)) ?_
        refine .sl (size := i.size) hvn (by simpa using hge) (fun e he => (List.mem_append.1 he).elim (hes e) (hxs e)) ?_
        simp [Gh.addHist]
      · cases hr
  · -- a slice that owns the room behind it
    rename_i es tg fin heq
    rw [heq] at hs1
    obtain ⟨size, b, off, cap, hu, hvp, hcap, hes, hh⟩ := hs1.sl_inv
    split at hr
    · rename_i n hw hst
      split at hr
      · rename_i hemp
        have : xs = [] := by simpa using hemp
        subst this
        have hnn : news = [] := List.eq_nil_of_length_eq_zero (by simpa using hn1.1)
        subst hnn
        cases hr
        refine opTo_value (key _ w ?_) (.same h (by rw [heq]; exact hu ▸ hs1))
        rw [hu]
        exact run_appendNone ht hd hdi hi hcap hn2 (hn3 w rfl)
      · rename_i hemp
        split at hr
        · rename_i hc
          obtain ⟨rfl, rfl, c2, c3, c4⟩ := hc
          cases hr
          obtain ⟨_, hsp⟩ := h.spare tg _ hw hst
          obtain ⟨hss, ⟨arr, ety, hbb, hbz⟩, hFs⟩ := hsp _ hh
          simp only at hss hbb hbz hFs
          subst hss
          have hpos : 0 < xs.length := by rcases xs with _ | _; · simp at hemp
                                          · simp
          rw [hu] at hvp
          obtain ⟨_, _, hcm, hget⟩ := hvp.get hes
          by_cases hroom : es.length + xs.length ≤ cap
          · -- in its place
            have hfit : off + es.length * i.size + news.length ≤ arr.size := by
              rw [hbz, hn1.1]
              have : xs.length * i.size ≤ (cap - es.length) * i.size := Nat.mul_le_mul_right _ (by omega)
              omega
            have hrun := run_room (P := P) (w := w) (rt := o.type) ht hd hdi hi hbb hn2 (hn3 w rfl) hone hroom hfit
            generalize hcur : (arr.toList.take (off + es.length * i.size) ++ news ++ arr.toList.drop (off + es.length * i.size + news.length)) = cur at hrun
            have hg : ∀ j, cur[j]? = if off + es.length * i.size ≤ j ∧ j < off + es.length * i.size + news.length then news[j - (off + es.length * i.size)]? else arr.toList[j]? := fun j => by
              rw [← hcur]; exact take_drop_get arr.toList news _ j (by simpa using hfit)
            have hcl : cur.length = arr.size := by rw [← hcur]; simp only [List.length_append, List.length_take, List.length_drop, Array.length_toList]; omega
            have hG := h.grow hst ⟨b, off + es.length * i.size, cap - es.length, i.size⟩ ⟨b, off + es.length * i.size + xs.length * i.size, cap - es.length - xs.length, i.size⟩ hh hpos cur.toArray ety
              (fun k => if off + es.length * i.size ≤ k ∧ k < off + es.length * i.size + news.length then cur[k]? else none)
              (w' := w.setRow b cur.toArray) rfl rfl rfl (by simp [World.setRow]) (fun c _ hc => setRow_other w b c _ hc) (setRow_heap w b arr _ ety _ hbb) rfl
              (by simp only [List.size_toArray, hcl, hbz]
                  have : (cap - es.length) * i.size = xs.length * i.size + (cap - es.length - xs.length) * i.size := by rw [← Nat.add_mul]; congr 1; omega
                  omega)
              (fun k y hk => by
                split at hk
                · rename_i hb; exact ⟨by have := hn1.1; show k < off + es.length * i.size + xs.length * i.size; omega, by simpa using hk⟩
                · cases hk)
              (.inl ⟨rfl, by show off + es.length * i.size ≤ off + es.length * i.size + xs.length * i.size; omega, fun k y hk hy => by
                rw [cell_of_row w b k arr ety (0, 0) hbb] at hy
                simp only [List.getElem?_toArray]
                rw [hg, if_neg (by simp only at hk; omega)]
                simpa using hy⟩)
            refine opTo_value (key _ _ (by rw [hu]; exact hrun)) ⟨_, hG.1, ?_, hG.2⟩
            have hFle : ∀ b' o' v', G.F b' o' = some v' → (G.addF b fun k => if off + es.length * i.size ≤ k ∧ k < off + es.length * i.size + news.length then cur[k]? else none).F b' o' = some v' :=
              fun b' o' v' hv => by simp [Gh.addF, hv]
            have hvn := vp_append (F := G.F) (F' := (G.addF b fun k => if off + es.length * i.size ≤ k ∧ k < off + es.length * i.size + news.length then cur[k]? else none).F)
              hFle (es := es) (xs := xs) (size := i.size) (b := b) (off := off) (cap := cap) hroom hcm hes hxs
              (fun i' j p hp => let ⟨y, a1, a2⟩ := hget i' j p hp; ⟨y, hFle _ _ _ a1, a2⟩)
              (fun i' j p hp => by
                obtain ⟨y, a1, a2⟩ := hn1.2 i' j p hp
                have hb := at2_lt hxs hp
                have hlt := (List.getElem?_eq_some_iff.1 a1).1
                refine ⟨y, ?_, a2⟩
                have e1 : off + (es.length + i') * i.size + j = off + es.length * i.size + (i' * i.size + j) := by rw [Nat.add_mul]; omega
                rw [e1]
                simp only [Gh.addF]
                rw [hFs _ (by omega)]
                simp only [if_true]
                rw [if_pos ⟨by omega, by omega⟩, hg, if_pos ⟨by omega, by omega⟩, ← a1]
                congr 1; omega)
            refine VL.len (List.length_append (as := es) (bs := xs)) ?_
            refine .sl (size := i.size) hvn (by simpa using hroom) (fun e he => (List.mem_append.1 he).elim (hes e) (hxs e)) ?_
            simp only [Gh.addHist, true_and, if_true, and_self, List.length_append, Nat.add_mul, Option.some.injEq, Sp.mk.injEq, and_true]
            omega
          · -- in a new array
            obtain ⟨_, olds, ho1, ho2⟩ := olds_sound (P := P) h hes hvp
            have hrun := run_grow (P := P) (w := w) (rt := o.type) ht hd hdi hi hz (ho2 w.drew rfl) hn2 (hn3 w.drew rfl) (by omega) c3 c2
            generalize hcap' : grownCap w (es.length + xs.length) cap e = cap' at hrun
            have hge : es.length + xs.length ≤ cap' := by rw [← hcap']; exact grownCap_ge ..
            have hle : cap' ≤ maxLen := by rw [← hcap']; exact grownCap_le_maxLen _ _ _ _ c3
            generalize harr : olds.toArray ++ news.toArray ++ Builtin.zeroCells z.cells (cap' - (es.length + xs.length)) = arr' at hrun
            have hasz : arr'.size = (es.length + xs.length) * i.size + (cap' - (es.length + xs.length)) * i.size := by
              rw [← harr]; simp only [Array.size_append, List.size_toArray, ho1.1, hn1.1, size_zeros, hzs, Nat.add_mul]
            have hG := h.grow hst ⟨b, off + es.length * i.size, cap - es.length, i.size⟩ ⟨w.heap.size, (es.length + xs.length) * i.size, cap' - (es.length + xs.length), i.size⟩ hh hpos arr' e
              (fun k => if k < (es.length + xs.length) * i.size then arr'[k]? else none)
              (w' := w.drew.alloc (.cells arr' e)) rfl rfl rfl (by simp) (fun c hc _ => heap_old (w := w.drew) hc) (heap_alloc_new w.drew _) rfl hasz
              (fun k y hk => by
                split at hk
                · exact ⟨‹_›, hk⟩
                · cases hk)
              (.inr ⟨Nat.le_refl _, heap_old (w := w.drew) (lt_of_heap hbb)⟩)
            refine opTo_value (key _ _ (by rw [hu]; exact hrun)) ⟨_, hG.1, ?_, hG.2⟩
            have hFn : ∀ k y, k < (es.length + xs.length) * i.size → arr'[k]? = some y →
                (G.addF w.heap.size fun k => if k < (es.length + xs.length) * i.size then arr'[k]? else none).F w.heap.size k = some y := by
              intro k y hk hy
              simp only [Gh.addF]
              cases hg : G.F w.heap.size k with
              | some v => have := h.fr_lt hg; omega
              | none => simp [hk, hy]
            have hbd : ∀ i' j, i' < es.length + xs.length → j < i.size → i' * i.size + j < (es.length + xs.length) * i.size := by
              intro i' j h1 h2
              have : (i' + 1) * i.size ≤ (es.length + xs.length) * i.size := Nat.mul_le_mul_right _ (by omega)
              rw [Nat.add_mul] at this; omega
            have hvn := vp_append (F := G.F) (F' := (G.addF w.heap.size fun k => if k < (es.length + xs.length) * i.size then arr'[k]? else none).F)
              (fun b o v hv => by simp [Gh.addF, hv]) (es := es) (xs := xs) (size := i.size) (b := w.heap.size) (off := 0) (cap := cap') (by omega) hle hes hxs
              (fun i' j p hp => by
                obtain ⟨y, a1, a2⟩ := ho1.2 i' j p hp
                have hb := at2_lt hes hp
                refine ⟨y, hFn _ y (by simpa using hbd i' j (by omega) hb.2) ?_, a2⟩
                rw [← harr, Nat.zero_add]
                have := (List.getElem?_eq_some_iff.1 a1).1
                rw [Array.append_assoc, Array.getElem?_append_left (by simpa using this)]
                simpa using a1)
              (fun i' j p hp => by
                obtain ⟨y, a1, a2⟩ := hn1.2 i' j p hp
                have hb := at2_lt hxs hp
                refine ⟨y, hFn _ y (by simpa using hbd (es.length + i') j (by omega) hb.2) ?_, a2⟩
                rw [← harr, Nat.zero_add, Nat.add_mul]
                have := (List.getElem?_eq_some_iff.1 a1).1
                rw [Array.append_assoc, Array.getElem?_append_right (by simp [ho1.1]; omega), Array.getElem?_append_left (by simp [ho1.1]; omega)]
                simp only [List.size_toArray, ho1.1, List.getElem?_toArray]
                rw [← a1]; congr 1; omega)
            refine VL.len (List.length_append (as := es) (bs := xs)) ?_
            refine .sl (size := i.size) hvn (by simpa using hge) (fun e he => (List.mem_append.1 he).elim (hes e) (hxs e)) ?_
            simp [Gh.addHist]
        · cases hr
    · cases hr
  · cases hr
theorem run_growZ {ty u e rt : TypeId} (ht : P.underlying ty = some (.slice e)) (hd : P.underlying u = some (.int .i64)) {i : TypeInfo} (hi : P.info? e = some i) {z : Value} (hz : i.zero = some z)
    {base : Option Addr} {n : Nat} (hn0 : 0 < n) (h63 : n ≤ maxLen) (hb : roomy n i.bytes = true) (hb48 : n * i.bytes ≤ 281474976710656) (hsz : 0 < i.size) :
    (Builtin.append_ #[ty, u] rt #[.slice base 0 0, .int .i64 n]).run P w = .ok (.slice (some ⟨w.heap.size, 0, none⟩) n (grownCap w n 0 e))
      (w.drew.alloc (.cells (Builtin.zeroCells z.cells n ++ Builtin.zeroCells z.cells (grownCap w n 0 e - n)) e)) := by
  have hw : IntKind.i64.wrap (n : Int) = (n : Int) := by
    simp only [maxLen] at h63
    simp only [IntKind.wrap, IntKind.bits, IntKind.signed]
    simp
    omega
  have h0 : ¬ ((n : Int) < 0) := by omega
  have h48 : ¬ (281474976710656 < (n : Int) * (i.bytes : Int)) := by
    have : (n : Int) * (i.bytes : Int) = ((n * i.bytes : Nat) : Int) := by push_cast; rfl
    rw [this]; omega
  have hnn : ¬ (n = 0) := by omega
  have hsz0 : ¬ (i.size = 0) := by omega
  have h63' : ¬ (9223372036854775807 < (n : Int)) := by simp only [maxLen] at h63; omega
  have hfit := roomy_fits (need := n) (old := 0) (by omega) hb
  have h48' : ¬ (281474976710656 < Builtin.nextslicecap n 0 * i.bytes) := by omega
  have hu : (underlying u).run P w = .ok (.int .i64) w := run_underlying hd w
  have hold : (Builtin.firstCells i.size 0 (.slice base 0 0)).run P w.drew = .ok #[] w.drew := by
    cases base with
    | none => simp [Builtin.firstCells]
    | some a => simp [Builtin.firstCells, loadCells, loadCellsFrom]
  simp [Builtin.append_, run_underlying ht, hu, sizeOf, typeInfo, zeroValue, hi, hz, asInt, hw, h0, h48, hnn, hsz0, h63', h48', Question.forced, hold, newRow, grownCap, asIntOf]
  intro hc
  rcases Nat.mul_eq_zero.1 hc with hc | hc <;> omega
theorem roomy_48 {n bytes : Nat} (h : roomy n bytes = true) : n * bytes ≤ 281474976710656 := by
  simp only [roomy, Bool.or_eq_true, decide_eq_true_eq] at h
  rcases h with h | h
  · omega
  · exact Nat.le_trans (Nat.mul_le_mul_right _ (by omega)) h
theorem op_grow {s x : Operand} {ty u e : TypeId} (ho : o.op = .call { callee := .builtin .append, args := #[s, x], argTypes := #[ty, u] })
    (ht : P.underlying ty = some (.slice e)) (hd : P.underlying u = some (.int .i64)) {i : TypeInfo} (hi : P.info? e = some i) {z : Value} (hz : i.zero = some z) (hzs : z.cells.size = i.size) (hsz : 0 < i.size)
    {s' x' : LX} (hs' : compX s = some s') (hx' : compX x = some x') {n : Int} (h1 : s'.ev t = .tight []) (h2 : x'.ev t = .p (.int .i64 n))
    (hr : (if n = 0 then some (.tight [], st) else if 0 < n ∧ roomy n.toNat i.bytes = true ∧ n ≤ 9223372036854775807 then some (.gr st.length n.toNat, st ++ [.spare i.size 0]) else none) = some (v, st'))
    (h : WR G st w) (hx : XsR G t a o.op) : OpTo P o a w (Good G st w v st') := by
  have hs1 := hx s (by rw [ho]; simp [Op.operands, Call.operands]) s' hs'
  have hx1 := hx x (by rw [ho]; simp [Op.operands, Call.operands]) x' hx'
  have key : ∀ (r : Value) (w' : World), (Builtin.append_ #[ty, u] o.type #[a.eval s, a.eval x]).run P w = .ok r w' → (execOp a.eval o).run P w = .ok (.value r) w' := by
    intro r w' hrun
    simp [execOp, ho, resolve, invoke, builtin, hrun]
  rw [h1] at hs1; rw [h2] at hx1
  obtain ⟨ad, hu, hvp⟩ := hs1.tight_inv
  have hxu := hx1.int_inv
  simp only [List.length_nil] at hu
  split at hr
  · rename_i h0
    cases hr
    refine opTo_value (key (.slice ad 0 0) w ?_) (.same h (by rw [← hu]; exact hs1))
    rw [hu, hxu, h0]
    have huu : (underlying u).run P w = .ok (.int .i64) w := run_underlying hd w
    have hw0 : IntKind.i64.wrap 0 = 0 := by decide
    cases ad <;> simp [Builtin.append_, run_underlying ht, huu, sizeOf, typeInfo, hi, asInt, asIntOf, hw0, storeCells]
  · rename_i h0
    split at hr
    · rename_i hc
      cases hr
      obtain ⟨m, rfl⟩ := Int.eq_ofNat_of_zero_le (show 0 ≤ n by omega)
      have hm : ((m : Int)).toNat = m := by omega
      rw [hm] at hc ⊢
      have h63 : m ≤ maxLen := by simp only [maxLen]; omega
      have hrun := run_growZ (P := P) (w := w) (rt := o.type) (base := ad) (n := m) ht hd hi hz (by omega) h63 hc.2.1 (roomy_48 hc.2.1) hsz
      generalize hcap : grownCap w m 0 e = cap at hrun
      have hge : m ≤ cap := by rw [← hcap]; exact grownCap_ge ..
      have hle : cap ≤ maxLen := by rw [← hcap]; exact grownCap_le_maxLen _ _ _ _ h63
      generalize harr : Builtin.zeroCells z.cells m ++ Builtin.zeroCells z.cells (cap - m) = arr at hrun
      have hasz : arr.size = 0 + cap * i.size := by
        rw [← harr]; simp only [Array.size_append, size_zeros, hzs]
        rw [← Nat.add_mul, Nat.zero_add]; congr 1; omega
      have hw : WR G st w.drew := h.of_heap rfl
      obtain ⟨r1, r2⟩ := hw.newSpare arr e i.size 0 cap 0 hasz
      refine opTo_value (key _ _ (by rw [hu, hxu]; exact hrun)) ⟨_, r1, ?_, (Ext.of_heap (w := w) (w' := w.drew) rfl rfl rfl rfl).trans r2⟩
      exact .gr (size := i.size) hge hle (by simp [Gh.addHist])
    · cases hr
theorem VL.gr_inv {G : Gh} {tg n : Nat} {u : Value} (h : VL G (.gr tg n) u) : ∃ size b o cap, u = .slice (some ⟨b, o, none⟩) n cap ∧ n ≤ cap ∧ cap ≤ maxLen ∧ G.hist tg 0 = some ⟨b, o, cap, size⟩ := by
  cases h with | gr a b c => exact ⟨_, _, _, _, rfl, a, b, c⟩
theorem op_slice_gr {ty e : TypeId} {x : Operand} {lo hi mx : Option Operand} (ho : o.op = .slice ty x lo hi mx) (hty : P.underlying ty = some (.slice e)) {inf : TypeInfo} (hinf : P.info? e = some inf)
    {x' : LX} {lo' hi' mx' : Option LX} (hx' : compX x = some x') (hlo : compO lo = some lo') (hhi : compO hi = some hi') (hmx : compO mx = some mx') {tg n : Nat} (hs : x'.ev t = .gr tg n)
    (hln : lo' = none) (hmn : mx' = none) (h1 : bnd n (hi'.map (LX.ev t)) n = some 0)
    (h : WR G st w) (hx : XsR G t a o.op) : OpTo P o a w (Good G st w (.sl [] tg 0) st) := by
  have e1 := hx x (by rw [ho]; simp [Op.operands]) x' hx'
  rw [hs] at e1
  obtain ⟨size, b, off, cap, hu, hn, hm, hh⟩ := e1.gr_inv
  have hbo := run_bounds (P := P) (G := G) (t := t) (a := a) hlo hhi hmx (fun x hc y hy => hx x (by rw [ho]; rcases hc with rfl | rfl | rfl <;> simp [Op.operands]) y hy) hn (by simp [hmn]) (by rw [hmn]; rfl) h1 (by rw [hln]; rfl) w
  obtain ⟨b0, _⟩ := hbo
  rw [hmn] at b0
  refine opTo_value (run_sliceOp ho hty hinf hu b0) (.same h ?_)
  simp only [Option.isSome_none, Bool.false_eq_true, if_false, Nat.zero_mul, Nat.sub_zero, Option.map_some, Addr.add_lit, Nat.add_zero, ite_self]
  exact .sl (es := []) (size := size) (.sl0 _ cap hm) (Nat.zero_le _) (by simp) (by simpa using hh)
theorem op_slice_tight0 {ty e : TypeId} {x : Operand} {lo hi mx : Option Operand} (ho : o.op = .slice ty x lo hi mx) (hty : P.underlying ty = some (.slice e)) {inf : TypeInfo} (hinf : P.info? e = some inf)
    {x' : LX} {lo' hi' mx' : Option LX} (hx' : compX x = some x') (hlo : compO lo = some lo') (hhi : compO hi = some hi') (hmx : compO mx = some mx') (hs : x'.ev t = .tight [])
    (hln : lo' = none) (hmn : mx' = none) {hh : Nat} (h1 : bnd 0 (hi'.map (LX.ev t)) 0 = some hh)
    (h : WR G st w) (hx : XsR G t a o.op) : OpTo P o a w (Good G st w (.tight []) st) := by
  have e1 := hx x (by rw [ho]; simp [Op.operands]) x' hx'
  rw [hs] at e1
  obtain ⟨ad, hu, hvp⟩ := e1.tight_inv
  simp only [List.length_nil] at hu
  have hbo := run_bounds (P := P) (G := G) (t := t) (a := a) hlo hhi hmx (fun x hc y hy => hx x (by rw [ho]; rcases hc with rfl | rfl | rfl <;> simp [Op.operands]) y hy) (Nat.le_refl 0) (by simp [hmn]) (by rw [hmn]; rfl) h1 (by rw [hln]; rfl) w
  obtain ⟨b0, _, _, b3, _⟩ := hbo
  have : hh = 0 := by omega
  subst this
  rw [hmn] at b0
  refine opTo_value (run_sliceOp ho hty hinf hu b0) (.same h ?_)
  simp only [Option.isSome_none, Bool.false_eq_true, if_false, if_true, Nat.sub_self]
  rw [← hu]
  exact e1
end ops
end Go.LS
set_option linter.unusedVariables false
set_option linter.unusedSimpArgs false
namespace Go.LS
section ops
variable {P : Program} {G : Gh} {st st' : List LObj} {w : World} {t : List LV} {a : Act} {o : Oper} {v : LV}
theorem op_s2b {src dst e : TypeId} {x : Operand} (ho : o.op = .convert src dst x) (hs : P.underlying src = some .string) (hd : P.underlying dst = some (.slice e)) (he : P.underlying e = some (.int .u8))
    {y : LX} (hy : compX x = some y) {l : List UInt8} (hv : y.ev t = .p (.str l)) (hl : l.length ≤ 140737488355328) (h : WR G st w) (hx : XsR G t a o.op) :
    OpTo P o a w (Good G st w (.p (.sl (bs l))) st) := by
  have h1 := hx x (by rw [ho]; simp [Op.operands]) y hy
  rw [hv] at h1
  have hu := h1.str_inv
  have hrun := run_bytes_of_string (P := P) w src dst e ⟨l.toArray⟩ hs hd he
  rw [ba_size] at hrun
  generalize hcap : grownCap w l.length 0 e = cap at hrun
  have hge : l.length ≤ cap := by rw [← hcap]; exact grownCap_ge ..
  have hle : cap ≤ maxLen := by rw [← hcap]; exact grownCap_le_maxLen _ _ _ _ (by simp only [maxLen]; omega)
  have hw : WR G st w.drew := h.of_heap rfl
  obtain ⟨r1, r2⟩ := hw.newF (bytesRow ⟨l.toArray⟩ cap) e ((bytesRow ⟨l.toArray⟩ cap).size, (bytesRow ⟨l.toArray⟩ cap).size + 1)
  refine opTo_value (by simp only [execOp, ho, hu, Sem.run_bind, hrun, Result.andThen_ok, Sem.run_pure]; rfl) ⟨_, r1, .p ?_, (Ext.of_heap (w := w) (w' := w.drew) rfl rfl rfl rfl).trans r2⟩
  have hlen : l.length = (bs l).length := by simp [bs]
  rw [hlen]
  refine VP.mk (size := 1) (by rw [← hlen]; exact hge) hle (fun e he => by simp only [bs, List.mem_map] at he; obtain ⟨b, _, rfl⟩ := he; rfl) ?_
  intro i j p hp
  have hb := at2_lt (size := 1) (fun e he => by simp only [bs, List.mem_map] at he; obtain ⟨b, _, rfl⟩ := he; rfl) hp
  obtain rfl : j = 0 := by omega
  have hi : i < l.length := by rw [hlen]; exact hb.1
  simp only [at2, bs, List.getElem?_map, List.getElem?_eq_getElem hi, Option.map_some, Option.bind_some, List.getElem?_cons_zero, Option.some.injEq] at hp
  subst hp
  refine ⟨.int .u8 l[i].toNat, ?_, .int _ _⟩
  simp only [Gh.addF]
  cases hg : G.F w.heap.size (0 + i * 1 + 0) with
  | some v => have := h.fr_lt hg; omega
  | none =>
    simp [bytesRow, hi, Array.getElem?_append]
theorem fold_set (vs : List Value) (off : Nat) : ∀ (k : Nat) (cells : Array Value) (i : Nat),
    ((vs.zipIdx k).foldl (fun cs (x : Value × Nat) => cs.setIfInBounds (off + x.2) x.1) cells)[i]? =
      if off + k ≤ i ∧ i < off + k + vs.length ∧ i < cells.size then vs[i - (off + k)]? else cells[i]? := by
  induction vs with
  | nil => intro k cells i; simp; omega
  | cons v vs ih =>
    intro k cells i
    rw [List.zipIdx_cons, List.foldl_cons, ih]
    simp only [Array.size_setIfInBounds, List.length_cons]
    by_cases h1 : off + (k + 1) ≤ i ∧ i < off + (k + 1) + vs.length ∧ i < cells.size
    · rw [if_pos h1, if_pos (by omega)]
      rw [show i - (off + k) = (i - (off + (k + 1))) + 1 by omega]
      simp
    · rw [if_neg h1]
      by_cases h2 : i = off + k
      · subst h2
        by_cases h3 : off + k < cells.size
        · rw [if_pos (by omega)]; simp [h3]
        · rw [if_neg (by omega)]
          rw [Array.getElem?_eq_none (by simp; omega), Array.getElem?_eq_none (by omega)]
      · rw [if_neg (by omega)]
        rw [Array.getElem?_setIfInBounds_ne (by omega)]
theorem fold_size (vs : List Value) (off : Nat) : ∀ (k : Nat) (cells : Array Value), ((vs.zipIdx k).foldl (fun cs (x : Value × Nat) => cs.setIfInBounds (off + x.2) x.1) cells).size = cells.size := by
  induction vs with
  | nil => intro k cells; rfl
  | cons v vs ih => intro k cells; rw [List.zipIdx_cons, List.foldl_cons, ih]; simp
theorem CellsR.put {z cs : List LV} {arr vs : Array Value} (hz : CellsR G z arr) (hc : CellsR G cs vs) (off : Nat) (hl : off + cs.length ≤ z.length) :
    CellsR G (z.take off ++ cs ++ z.drop (off + cs.length)) (vs.toList.zipIdx.foldl (fun cs (x : Value × Nat) => cs.setIfInBounds (off + x.2) x.1) arr) := by
  refine ⟨by rw [fold_size, hz.1]; simp only [List.length_append, List.length_take, List.length_drop]; omega, fun i x hx => ?_⟩
  rw [take_drop_get z cs off i hl] at hx
  rw [fold_set vs.toList off 0 arr i]
  have h1 := hc.1
  have h2 := hz.1
  split at hx
  · rename_i hi
    obtain ⟨y, a1, a2⟩ := hc.2 _ x hx
    refine ⟨y, ?_, a2⟩
    rw [if_pos ⟨by omega, by simp; omega, by omega⟩]
    simpa using a1
  · rename_i hi
    obtain ⟨y, a1, a2⟩ := hz.2 i x hx
    refine ⟨y, ?_, a2⟩
    rw [if_neg (by simp; omega)]
    exact a1
theorem fill_sound (place : Nat → Option (Nat × Nat)) : ∀ {parts : List (Nat × Operand)} {ps : List (Nat × Nat × LX)} {qs : List (Nat × Nat × List LV)} {z cs : List LV} {arr : Array Value},
    ps.length = parts.length → (∀ (k i : Nat) x, parts[k]? = some (i, x) → ∃ off n y, ps[k]? = some (off, n, y) ∧ place i = some (off, n) ∧ compX x = some y) →
    (∀ i x, (i, x) ∈ parts → ∀ y, compX x = some y → VL G (y.ev t) (a.eval x)) → evParts t ps = some qs → setParts z qs = some cs → CellsR G z arr →
    ∃ arr', Instr.fill place arr (parts.map fun p => (p.1, a.eval p.2)) = some arr' ∧ CellsR G cs arr'
  | [], ps, qs, z, cs, arr, hl, hp, hx, he, hs, hz => by
    obtain rfl : ps = [] := by simpa using hl
    simp only [evParts] at he; cases he
    simp only [setParts] at hs; cases hs
    exact ⟨arr, rfl, hz⟩
  | (i, x) :: r, ps, qs, z, cs, arr, hl, hp, hx, he, hs, hz => by
    obtain ⟨off, n, y, hps, hpl, hy⟩ := hp 0 i x rfl
    cases ps with
    | nil => simp at hps
    | cons q ps =>
      simp at hps; subst hps
      simp only [evParts] at he
      split at he
      · rename_i c l hc hl'
        cases he
        simp only [setParts] at hs
        split at hs
        · rename_i hn
          have hcr := cells_sound hc (hx i x (by simp) y hy)
          have hput := hz.put hcr off (by omega)
          rw [hn.1] at hput
          obtain ⟨arr', h1, h2⟩ := fill_sound place (parts := r) (ps := ps) (by simpa using hl) (fun k i x hk => by simpa using hp (k + 1) i x (by simpa using hk)) (fun i x hm => hx i x (by simp [hm])) hl' hs hput
          refine ⟨arr', ?_, h2⟩
          have hcz : (a.eval x).cells.size = n := by rw [hcr.1]; exact hn.1
          have hz1 := hz.1
          simp only [List.map_cons, Instr.fill, hpl, hcz]
          rw [if_neg (by simp; omega)]
          rw [← h1]
          congr 1
          rw [← Array.foldl_toList]
          simp
        · cases hs
      · cases he
theorem compFields_get {fs : Array Field} : ∀ {l : List (Nat × Operand)} {ps : List (Nat × Nat × LX)}, compFields P fs l = some ps → ps.length = l.length ∧ ∀ (k i : Nat) x, l[k]? = some (i, x) →
    ∃ off n y, ps[k]? = some (off, n, y) ∧ (∃ f inf, fs[i]? = some f ∧ P.info? f.type = some inf ∧ off = f.offset ∧ n = inf.size) ∧ compX x = some y
  | [], ps, h => by simp only [compFields] at h; cases h; exact ⟨rfl, by simp⟩
  | (i, x) :: r, ps, h => by
    simp only [compFields] at h
    split at h
    · rename_i f y l hf hy hl
      split at h
      · rename_i inf hi
        cases h
        obtain ⟨h1, h2⟩ := compFields_get hl
        refine ⟨by simp [h1], fun k i' x' hk => ?_⟩
        cases k with
        | zero => simp at hk; obtain ⟨rfl, rfl⟩ := hk; exact ⟨_, _, _, rfl, ⟨f, inf, hf, hi, rfl, rfl⟩, hy⟩
        | succ k => simpa using h2 k i' x' (by simpa using hk)
      · cases h
    · cases h
theorem compElems_get {size : Nat} : ∀ {l : List (Nat × Operand)} {ps : List (Nat × Nat × LX)}, compElems size l = some ps → ps.length = l.length ∧ ∀ (k i : Nat) x, l[k]? = some (i, x) →
    ∃ off n y, ps[k]? = some (off, n, y) ∧ (off = i * size ∧ n = size) ∧ compX x = some y
  | [], ps, h => by simp only [compElems] at h; cases h; exact ⟨rfl, by simp⟩
  | (i, x) :: r, ps, h => by
    simp only [compElems] at h
    split at h
    · rename_i y l hy hl
      cases h
      obtain ⟨h1, h2⟩ := compElems_get hl
      refine ⟨by simp [h1], fun k i' x' hk => ?_⟩
      cases k with
      | zero => simp at hk; obtain ⟨rfl, rfl⟩ := hk; exact ⟨_, _, _, rfl, ⟨rfl, rfl⟩, hy⟩
      | succ k => simpa using h2 k i' x' (by simpa using hk)
    · cases h
theorem zeroOf_inv {e : TypeId} {z : List LV} (h : zeroOf P e = some z) : ∃ i zv, P.info? e = some i ∧ i.zero = some zv ∧ ∀ G, CellsR G z zv.cells := by
  unfold zeroOf at h
  split at h
  · rename_i i hi
    split at h
    · rename_i zv hz
      exact ⟨i, zv, hi, hz, fun G => by have := constCells_sound G h; simpa using this⟩
    · cases h
  · cases h
theorem run_places {fs : Array Field} (hall : allInfo P fs = true) (w : World) :
    (fs.mapM fun f => (do pure (f.offset, ← sizeOf f.type) : Sem (Nat × Nat))).run P w = .ok (fs.map fun f => (f.offset, ((P.info? f.type).map (·.size)).getD 0)) w := by
  have hl : ∀ (l : List Field), (∀ f ∈ l, (P.info? f.type).isSome = true) → (l.mapM fun f => (do pure (f.offset, ← sizeOf f.type) : Sem (Nat × Nat))).run P w = .ok (l.map fun f => (f.offset, ((P.info? f.type).map (·.size)).getD 0)) w := by
    intro l hl
    induction l with
    | nil => simp [List.mapM_nil]
    | cons f r ih =>
      obtain ⟨i, hi⟩ := Option.isSome_iff_exists.1 (hl f (by simp))
      rw [List.mapM_cons]
      simp only [Sem.run_bind, sizeOf, typeInfo, run_program, Result.andThen_ok, hi, Sem.run_pure]
      have := ih (fun f hf => hl f (by simp [hf]))
      simp only [sizeOf, typeInfo] at this
      rw [this]
      simp [hi]
  have h := hl fs.toList (fun f hf => List.all_eq_true.1 hall f hf)
  obtain ⟨l⟩ := fs
  rw [List.mapM_toArray, ← bind_pure_comp]
  simp only [Sem.run_bind, h, Result.andThen_ok, Sem.run_pure]
  simp
theorem op_build_struct {ty : TypeId} {parts : Array (Nat × Operand)} (ho : o.op = .build ty parts) {fs : Array Field} (hty : P.underlying ty = some (.struct fs)) (hall : allInfo P fs = true)
    {z : List LV} (hz : zeroOf P ty = some z) {ps : List (Nat × Nat × LX)} (hps : compFields P fs parts.toList = some ps) {qs : List (Nat × Nat × List LV)} (hq : evParts t ps = some qs)
    {cs : List LV} (hcs : setParts z qs = some cs) (h : WR G st w) (hx : XsR G t a o.op) : OpTo P o a w (Good G st w (.agg cs) st) := by
  obtain ⟨i, zv, hi, hzv, hzr⟩ := zeroOf_inv hz
  obtain ⟨g1, g2⟩ := compFields_get hps
  obtain ⟨arr', h1, h2⟩ := fill_sound (G := G) (t := t) (a := a) (fun k => (fs.map fun f => (f.offset, ((P.info? f.type).map (·.size)).getD 0))[k]?) g1
    (fun k i x hk => by
      obtain ⟨off, n, y, e1, ⟨f, inf, e2, e3, rfl, rfl⟩, e4⟩ := g2 k i x hk
      exact ⟨_, _, y, e1, by simp [e2, e3], e4⟩)
    (fun i x hm y hy => hx x (by rw [ho]; simp only [Op.operands, List.mem_toArray, List.mem_map]; exact ⟨(i, x), by simpa using hm, rfl⟩) y hy) hq hcs (hzr G)
  obtain ⟨arr2, hu, hc2⟩ := (⟨arr', rfl, h2⟩ : ∃ x, x = arr' ∧ CellsR G cs x)
  refine opTo_value (u := .agg arr') (w' := w) ?_ (.same h ?_)
  · have hzr' : (zeroValue ty).run P w = .ok zv w := run_zeroValue hi hzv w
    have hmap : (parts.map fun (x : Nat × Operand) => (x.1, a.eval x.2)).toList = parts.toList.map fun (x : Nat × Operand) => (x.1, a.eval x.2) := by simp
    simp only [execOp, ho, Instr.build, Sem.run_bind, hzr', Result.andThen_ok, run_underlying hty]
    rw [run_places hall w]
    simp only [Result.andThen_ok, hmap, h1, Sem.run_pure]
  · rcases ofCells_sound (agg := true) (v := .agg cs) h2 rfl with ⟨_, h⟩ | ⟨h, _⟩
    · exact h
    · cases h
end ops
end Go.LS
set_option linter.unusedVariables false
set_option linter.unusedSimpArgs false
namespace Go.LS
section ops
variable {P : Program} {G : Gh} {st st' : List LObj} {w : World} {t : List LV} {a : Act} {o : Oper} {v : LV}
theorem op_build_array {ty e : TypeId} {m : Nat} {parts : Array (Nat × Operand)} (ho : o.op = .build ty parts) (hty : P.underlying ty = some (.array m e)) {inf : TypeInfo} (hinf : P.info? e = some inf)
    {z : List LV} (hz : zeroOf P ty = some z) {ps : List (Nat × Nat × LX)} (hps : compElems inf.size parts.toList = some ps) {qs : List (Nat × Nat × List LV)} (hq : evParts t ps = some qs)
    {cs : List LV} (hcs : setParts z qs = some cs) (h : WR G st w) (hx : XsR G t a o.op) : OpTo P o a w (Good G st w (.agg cs) st) := by
  obtain ⟨i, zv, hi, hzv, hzr⟩ := zeroOf_inv hz
  obtain ⟨g1, g2⟩ := compElems_get hps
  obtain ⟨arr', h1, h2⟩ := fill_sound (G := G) (t := t) (a := a) (fun i => some (i * inf.size, inf.size)) g1
    (fun k i x hk => by
      obtain ⟨off, n, y, e1, ⟨rfl, rfl⟩, e4⟩ := g2 k i x hk
      exact ⟨_, _, y, e1, rfl, e4⟩)
    (fun i x hm y hy => hx x (by rw [ho]; simp only [Op.operands, List.mem_toArray, List.mem_map]; exact ⟨(i, x), by simpa using hm, rfl⟩) y hy) hq hcs (hzr G)
  refine opTo_value (u := .agg arr') (w' := w) ?_ (.same h ?_)
  · have hzr' : (zeroValue ty).run P w = .ok zv w := run_zeroValue hi hzv w
    have hmap : (parts.map fun (x : Nat × Operand) => (x.1, a.eval x.2)).toList = parts.toList.map fun (x : Nat × Operand) => (x.1, a.eval x.2) := by simp
    simp only [execOp, ho, Instr.build, Sem.run_bind, hzr', Result.andThen_ok, run_underlying hty, sizeOf, typeInfo, run_program, hinf, Sem.run_pure, hmap, h1]
  · rcases ofCells_sound (agg := true) (v := .agg cs) h2 rfl with ⟨_, h⟩ | ⟨h, _⟩
    · exact h
    · cases h
theorem rowOk.put {arr vs : Array Value} {es : List (List LV)} {size : Nat} (hr : rowOk G arr es size) (hz : arr.size = es.length * size) {cs : List LV} (hc : CellsR G cs vs) (hl : cs.length = size) {i : Nat} (hi : i < es.length) :
    rowOk G (vs.toList.zipIdx.foldl (fun cs (x : Value × Nat) => cs.setIfInBounds (i * size + x.2) x.1) arr) (es.set i cs) size := by
  have hbig : (i + 1) * size ≤ es.length * size := Nat.mul_le_mul_right _ (by omega)
  rw [Nat.add_mul] at hbig
  have hcz := hc.1
  refine ⟨fun e he => ?_, fun i' j c hc' => ?_⟩
  · rcases List.mem_or_eq_of_mem_set he with he | rfl
    · exact hr.1 e he
    · exact hl
  · by_cases hii : i' = i
    · subst hii
      simp only [at2, List.getElem?_set_self hi, Option.bind_some] at hc'
      obtain ⟨y, a1, a2⟩ := hc.2 j c hc'
      have hj := (List.getElem?_eq_some_iff.1 hc').1
      refine ⟨y, ?_, a2⟩
      rw [fold_set, if_pos ⟨by omega, by simp; omega, by omega⟩]
      simp only [Array.getElem?_toList]
      rw [← a1]; congr 1; omega
    · have hc'' : at2 es i' j = some c := by simpa only [at2, List.getElem?_set_ne (Ne.symm hii)] using hc'
      obtain ⟨y, a1, a2⟩ := hr.2 i' j c hc''
      have hj := at2_lt hr.1 hc''
      refine ⟨y, ?_, a2⟩
      rw [fold_set, if_neg]
      · exact a1
      · rintro ⟨b1, b2, _⟩
        simp at b2
        rcases Nat.lt_or_gt_of_ne hii with hlt | hgt
        · have : (i' + 1) * size ≤ i * size := Nat.mul_le_mul_right _ hlt
          rw [Nat.add_mul] at this; omega
        · have : (i + 1) * size ≤ i' * size := Nat.mul_le_mul_right _ hgt
          rw [Nat.add_mul] at this; omega
theorem compParts_get : ∀ {l : List (Nat × Operand)} {ps : List (Nat × LX)}, compParts l = some ps → ps.length = l.length ∧ ∀ (k i : Nat) x, l[k]? = some (i, x) → ∃ y, ps[k]? = some (i, y) ∧ compX x = some y
  | [], ps, h => by simp only [compParts] at h; cases h; exact ⟨rfl, by simp⟩
  | (i, x) :: r, ps, h => by
    simp only [compParts] at h
    split at h
    · rename_i y l hy hl
      cases h
      obtain ⟨h1, h2⟩ := compParts_get hl
      refine ⟨by simp [h1], fun k i' x' hk => ?_⟩
      cases k with
      | zero => simp at hk; obtain ⟨rfl, rfl⟩ := hk; exact ⟨_, rfl, hy⟩
      | succ k => simpa using h2 k i' x' (by simpa using hk)
    · cases h
theorem fillRow_sound {size : Nat} : ∀ {parts : List (Nat × Operand)} {ps : List (Nat × LX)} {qs : List (Nat × List LV)} {es es' : List (List LV)} {arr : Array Value},
    ps.length = parts.length → (∀ (k i : Nat) x, parts[k]? = some (i, x) → ∃ y, ps[k]? = some (i, y) ∧ compX x = some y) →
    (∀ i x, (i, x) ∈ parts → ∀ y, compX x = some y → VL G (y.ev t) (a.eval x)) → evRow t ps = some qs → litRow size es qs = some es' → rowOk G arr es size → arr.size = es.length * size →
    ∃ arr', Instr.fill (fun i => some (i * size, size)) arr (parts.map fun p => (p.1, a.eval p.2)) = some arr' ∧ rowOk G arr' es' size ∧ arr'.size = es'.length * size ∧ es'.length = es.length
  | [], ps, qs, es, es', arr, hl, hp, hx, he, hs, hr, hz => by
    obtain rfl : ps = [] := by simpa using hl
    simp only [evRow] at he; cases he
    simp only [litRow] at hs; cases hs
    exact ⟨arr, rfl, hr, hz, rfl⟩
  | (i, x) :: r, ps, qs, es, es', arr, hl, hp, hx, he, hs, hr, hz => by
    obtain ⟨y, hps, hy⟩ := hp 0 i x rfl
    cases ps with
    | nil => simp at hps
    | cons q ps =>
      simp at hps; subst hps
      simp only [evRow] at he
      split at he
      · rename_i c l hc hl'
        cases he
        simp only [litRow] at hs
        split at hs
        · rename_i hn
          have hcr := cells_sound hc (hx i x (by simp) y hy)
          have hput := hr.put hz hcr hn.1 hn.2
          obtain ⟨arr', h1, h2, h3, h4⟩ := fillRow_sound (parts := r) (ps := ps) (by simpa using hl) (fun k i x hk => by simpa using hp (k + 1) i x (by simpa using hk)) (fun i x hm => hx i x (by simp [hm])) hl' hs hput
            (by rw [fold_size, hz]; simp)
          refine ⟨arr', ?_, h2, h3, by rw [h4]; simp⟩
          have hcz : (a.eval x).cells.size = size := by rw [hcr.1]; exact hn.1
          have hbig : (i + 1) * size ≤ es.length * size := Nat.mul_le_mul_right _ (by omega)
          rw [Nat.add_mul] at hbig
          simp only [List.map_cons, Instr.fill, hcz]
          rw [if_neg (by simp; omega)]
          rw [← h1]
          congr 1
          rw [← Array.foldl_toList]
          simp
        · cases hs
      · cases he
theorem zeros_row {z : List LV} {zv : Array Value} (hz : CellsR G z zv) (len : Nat) (hpos : 0 < z.length) :
    rowOk G (madeCells zv (len * z.length)) (List.replicate len z) z.length := by
  refine ⟨fun e he => by rw [List.eq_of_mem_replicate he], fun i j c hc => ?_⟩
  unfold at2 at hc
  rw [List.getElem?_replicate] at hc
  split at hc
  · rename_i hi
    simp only [Option.bind_some] at hc
    obtain ⟨y, a1, a2, a3⟩ := hz.2 j c hc
    have hj := (List.getElem?_eq_some_iff.1 hc).1
    have hbig : (i + 1) * z.length ≤ len * z.length := Nat.mul_le_mul_right _ (by omega)
    rw [Nat.add_mul] at hbig
    refine ⟨y, ?_, a2, a3⟩
    have hs := hz.1
    have hlt : i * z.length + j < len * z.length := by omega
    simp only [madeCells, Array.getElem?_map, Array.getElem?_range, hlt, if_true, Option.map_some]
    rw [hs, Nat.mul_comm, Nat.mul_add_mod, Nat.mod_eq_of_lt hj]
    congr 1
    rw [getElem!_def, a1]
  · simp at hc
theorem rowPV_sized {n : Nat} : ∀ {es : List (List LV)} {qs : List (List PV)}, rowPV es = some qs → (∀ e ∈ es, e.length = n) → ∀ e ∈ qs, e.length = n
  | [], qs, h, _ => by simp only [rowPV] at h; cases h; simp
  | e :: r, qs, h, hs => by
    simp only [rowPV] at h
    split at h
    · rename_i q l hq hl
      cases h
      intro x hx
      rcases List.mem_cons.1 hx with rfl | hx
      · rw [toPVs_len hq]; exact hs e (by simp)
      · exact rowPV_sized hl (fun e he => hs e (by simp [he])) x hx
    · cases h
theorem run_mkrow {ty e : TypeId} {len : Nat} {parts : Array (Nat × Operand)} (ho : o.op = .buildSlice ty len parts) (hty : P.underlying ty = some (.slice e)) {i : TypeInfo} (hi : P.info? e = some i)
    {z : List LV} (hz : zeroOf P e = some z) {ps : List (Nat × LX)} (hps : compParts parts.toList = some ps) (h0 : 0 < i.size) (hbig : len * i.size ≤ 16777216) (hzl : z.length = i.size)
    {qs : List (Nat × List LV)} (hq : evRow t ps = some qs) {es : List (List LV)} (hes : litRow i.size (List.replicate len z) qs = some es) (hx : XsR G t a o.op) :
    ∃ arr' : Array Value, (execOp a.eval o).run P w = .ok (.value (.slice (some ⟨w.heap.size, 0, none⟩) len len)) (w.alloc (.cells arr' e)) ∧ arr'.size = es.length * i.size ∧ rowOk G arr' es i.size ∧ es.length = len := by
  obtain ⟨i', zv, hi', hzv, hzr⟩ := zeroOf_inv hz
  rw [hi] at hi'; cases hi'
  have hr0 := zeros_row (hzr G) len (by omega)
  rw [hzl] at hr0
  obtain ⟨g1, g2⟩ := compParts_get hps
  obtain ⟨arr', h1, h2, h3, h4⟩ := fillRow_sound (G := G) (t := t) (a := a) g1 g2
    (fun i x hm y hy => hx x (by rw [ho]; simp only [Op.operands, List.mem_toArray, List.mem_map]; exact ⟨(i, x), by simpa using hm, rfl⟩) y hy) hq hes hr0 (by rw [size_madeCells]; simp)
  have hel : es.length = len := by rw [h4]; simp
  have hrun : (execOp a.eval o).run P w = .ok (.value (.slice (some ⟨w.heap.size, 0, none⟩) len len)) (w.alloc (.cells arr' e)) := by
    have hzr' : ∀ w, (zeroValue e).run P w = .ok zv w := fun w => run_zeroValue hi hzv w
    have hmap : (parts.map fun (x : Nat × Operand) => (x.1, a.eval x.2)).toList = parts.toList.map fun (x : Nat × Operand) => (x.1, a.eval x.2) := by simp
    have hnb : ¬ (len * i.size > 2 ^ 24) := by omega
    by_cases hl0 : len = 0
    · have hparts : arr' = #[] := by
        have : arr'.size = 0 := by rw [h3, hel, hl0]; simp
        simpa using this
      subst hl0
      have hmc : madeCells zv.cells (0 * i.size) = #[] := by simp [madeCells]
      rw [hmc] at h1
      simp only [execOp, ho, Instr.buildSlice, Sem.run_bind, run_underlying hty, Result.andThen_ok, sizeOf, typeInfo, run_program, hi, Sem.run_pure, Sem.run_ite, hnb, if_false, Nat.zero_mul, if_true, hmap]
      simp only [Array.range_zero', Array.map_empty, h1, newRow, Sem.run_bind, Result.andThen_ok, Sem.run_pure]
      rfl
    · have hne : ¬ (len * i.size = 0) := by
        intro e; rcases Nat.mul_eq_zero.1 e with e | e <;> omega
      simp only [execOp, ho, Instr.buildSlice, Sem.run_bind, run_underlying hty, Result.andThen_ok, sizeOf, typeInfo, run_program, hi, Sem.run_pure, Sem.run_ite, hnb, if_false, hne, hzr', hmap]
      unfold madeCells at h1
      simp only [h1, newRow, Sem.run_bind, Result.andThen_ok, Sem.run_pure]
      rfl
  exact ⟨arr', hrun, h3, h2, hel⟩
theorem op_mkrow {ty e : TypeId} {len : Nat} {parts : Array (Nat × Operand)} (ho : o.op = .buildSlice ty len parts) (hty : P.underlying ty = some (.slice e)) {i : TypeInfo} (hi : P.info? e = some i)
    {z : List LV} (hz : zeroOf P e = some z) {ps : List (Nat × LX)} (hps : compParts parts.toList = some ps) (h0 : 0 < i.size) (hbig : len * i.size ≤ 16777216) (hzl : z.length = i.size)
    {qs : List (Nat × List LV)} (hq : evRow t ps = some qs) {es : List (List LV)} (hes : litRow i.size (List.replicate len z) qs = some es) (h : WR G st w) (hx : XsR G t a o.op) :
    OpTo P o a w (Good G st w (.rs st.length 0 len) (st ++ [.row es])) ∧ ∀ q, rowPV es = some q → OpTo P o a w (Good G st w (.tight q) st) := by
  obtain ⟨arr', hrun, h3, h2, hel⟩ := run_mkrow (w := w) ho hty hi hz hps h0 hbig hzl hq hes hx
  refine ⟨?_, fun q hq => ?_⟩
  · refine opTo_value hrun ?_
    have := good_newRow (v := .rs st.length 0 len) (u := .slice (some ⟨w.heap.size, 0, none⟩) len len) h es i.size es.length arr' e h3 (Nat.le_refl _) h2 (by
      have hh := VL.rs (G := G.addLoc st.length (.row w.heap.size i.size es.length)) (o := st.length) (off := 0) (len := len) (cap := len) (blk := w.heap.size) (size := i.size) (n := es.length) (by simp [Gh.addLoc])
        (by simp only [maxLen]; have : len ≤ len * i.size := Nat.le_mul_of_pos_right _ h0; omega) (Nat.le_refl _) (by omega)
      simpa using hh)
    exact this
  · obtain ⟨r1, r2⟩ := h.newF arr' e (0, 0)
    refine opTo_value hrun ⟨_, r1, ?_, r2⟩
    obtain ⟨q1, q2⟩ := rowPV_get hq
    have hql : q.length = len := by rw [q1, hel]
    rw [← hql]
    have hqs : ∀ e ∈ q, e.length = i.size := rowPV_sized hq h2.1
    refine .tight (VP.mk (size := i.size) (Nat.le_refl _) (by rw [hql]; simp only [maxLen]; have : len ≤ len * i.size := Nat.le_mul_of_pos_right _ h0; omega) hqs ?_)
    intro i' j p hp
    obtain ⟨x, hx1, hx2⟩ := q2 i' j p hp
    obtain ⟨y, a1, a2, _⟩ := h2.2 i' j x hx1
    refine ⟨y, ?_, (toPV_sound hx2 a2).mono (Gh.le_addF ..).F⟩
    simp only [Gh.addF]
    cases hg : G.F w.heap.size (0 + i' * i.size + j) with
    | some v => have := h.fr_lt hg; omega
    | none => simpa using a1
end ops
end Go.LS
set_option linter.unusedVariables false
set_option linter.unusedSimpArgs false
namespace Go.LS
section ops
variable {P : Program} {G : Gh} {st st' : List LObj} {w : World} {t : List LV} {a : Act} {o : Oper} {v : LV}
theorem run_mkslice {ty e : TypeId} {l c : Operand} (ho : o.op = .makeSlice ty l c) (hty : P.underlying ty = some (.slice e)) {i : TypeInfo} (hi : P.info? e = some i)
    {z : List LV} (hz : zeroOf P e = some z) {l' c' : LX} (hl' : compX l = some l') (hc' : compX c = some c') {m n : Int} (hm : (l'.ev t).asInt = some m) (hn : (c'.ev t).asInt = some n)
    (hc : 0 ≤ m ∧ m ≤ n ∧ n * i.bytes ≤ 281474976710656 ∧ n ≤ maxLen ∧ z.length = i.size ∧ 0 < i.size) (hx : XsR G t a o.op) :
    ∃ zv : Value, CellsR G z zv.cells ∧ (execOp a.eval o).run P w = .ok (.value (.slice (some ⟨w.heap.size, 0, none⟩) m.toNat n.toNat)) (w.alloc (.cells (madeCells zv.cells (n.toNat * i.size)) e)) := by
  have h1 := hx l (by rw [ho]; simp [Op.operands]) l' hl'
  have h2 := hx c (by rw [ho]; simp [Op.operands]) c' hc'
  obtain ⟨kl, ul⟩ := asInt_inv hm h1
  obtain ⟨kc, uc⟩ := asInt_inv hn h2
  obtain ⟨i', zv, hi', hzv, hzr⟩ := zeroOf_inv hz
  rw [hi] at hi'; cases hi'
  obtain ⟨c1, c2, c3, c4, c5, c6⟩ := hc
  have hrun := run_make (P := P) w ty e i zv hty hi hzv kl kc m n c1 c2 (by rw [Int.mul_comm]; exact c3) (by have := c4; simp only [maxLen] at this; omega)
  have hrun' : (execOp a.eval o).run P w = .ok (.value (.slice (some ⟨w.heap.size, 0, none⟩) m.toNat n.toNat)) (w.alloc (.cells (madeCells zv.cells (n.toNat * i.size)) e)) := by
    simp only [execOp, ho, ul, uc, Sem.run_bind, hrun, Result.andThen_ok, Sem.run_pure]
  exact ⟨zv, hzr G, hrun'⟩
theorem op_mkslice {ty e : TypeId} {l c : Operand} (ho : o.op = .makeSlice ty l c) (hty : P.underlying ty = some (.slice e)) {i : TypeInfo} (hi : P.info? e = some i)
    {z : List LV} (hz : zeroOf P e = some z) {l' c' : LX} (hl' : compX l = some l') (hc' : compX c = some c') {m n : Int} (hm : (l'.ev t).asInt = some m) (hn : (c'.ev t).asInt = some n)
    (hc : 0 ≤ m ∧ m ≤ n ∧ n * i.bytes ≤ 281474976710656 ∧ n ≤ maxLen ∧ z.length = i.size ∧ 0 < i.size) (h : WR G st w) (hx : XsR G t a o.op)
    (hv : (m = 0 ∧ 0 < n ∧ v = .sl [] st.length 0 ∧ st' = st ++ [.spare i.size 0]) ∨ (m = n ∧ v = .rs st.length 0 m.toNat ∧ st' = st ++ [.row (List.replicate m.toNat z)])) :
    OpTo P o a w (Good G st w v st') := by
  obtain ⟨zv, hzr, hrun'⟩ := run_mkslice (w := w) ho hty hi hz hl' hc' hm hn hc hx
  obtain ⟨c1, c2, c3, c4, c5, c6⟩ := hc
  rcases hv with ⟨rfl, hp, rfl, rfl⟩ | ⟨rfl, rfl, rfl⟩
  · obtain ⟨r1, r2⟩ := h.newSpare (madeCells zv.cells (n.toNat * i.size)) e i.size 0 n.toNat 0 (by rw [size_madeCells]; omega)
    refine opTo_value hrun' ⟨_, r1, ?_, r2⟩
    refine .sl (es := []) (size := i.size) ?_ (by simp) (by simp) ?_
    · exact VP.mk (es := []) (size := i.size) (by simp) (by omega) (by simp) (fun i j p hp => by simp [at2] at hp)
    · simp [Gh.addHist]
  · refine opTo_value hrun' ?_
    have hr := zeros_row hzr m.toNat (by omega)
    rw [c5] at hr
    have hrow := good_newRow (v := .rs st.length 0 m.toNat) (u := .slice (some ⟨w.heap.size, 0, none⟩) m.toNat m.toNat) h (List.replicate m.toNat z) i.size m.toNat (madeCells zv.cells (m.toNat * i.size)) e
      (size_madeCells _ _) (by simp) hr (by
        have hh := VL.rs (G := G.addLoc st.length (.row w.heap.size i.size m.toNat)) (o := st.length) (off := 0) (len := m.toNat) (cap := m.toNat) (blk := w.heap.size) (size := i.size) (n := m.toNat) (by simp [Gh.addLoc])
          (by omega) (Nat.le_refl _) (by omega)
        simpa using hh)
    exact hrow
def KK.desc (kk : KK) (d : TypeDesc) : Prop :=
  match kk with
  | .int => ∃ k, d = .int k
  | .str => d = .string
  | .bool => d = .bool
theorem keyOk_inv {kt : TypeId} {kk : KK} (h : keyOk P kt = some kk) : ∃ d, P.underlying kt = some d ∧ kk.desc d := by
  unfold keyOk at h
  split at h <;> cases h
  · exact ⟨_, ‹_›, _, rfl⟩
  · exact ⟨_, ‹_›, rfl⟩
  · exact ⟨_, ‹_›, rfl⟩
theorem run_checkKey {kt : TypeId} {kk : KK} {d : TypeDesc} (hd : P.underlying kt = some d) (hk : kk.desc d) (b : Bool) (u : Value) (w : World) : (Instr.checkKey b 10000 kt u).run P w = .ok () w := by
  rw [show (10000 : Nat) = 9999 + 1 from rfl, Instr.checkKey]
  rw [Sem.run_bind, run_underlying hd, Result.andThen_ok]
  cases kk
  · obtain ⟨k, rfl⟩ := hk; rfl
  · cases hk; rfl
  · cases hk; rfl
theorem ba_beq (x y : List UInt8) : ((⟨x.toArray⟩ : ByteArray) == ⟨y.toArray⟩) = (x == y) := by
  show (x.toArray == y.toArray) = (x == y)
  simp
theorem vp_scalar {F : Nat → Nat → Option Value} {kk : KK} {k j : PV} {u e : Value} (hk : kk.fits k = true) (h1 : VP F k u) (h2 : VP F j e) {b : Bool} (hp : pvEq k j = some b) {d : TypeDesc} (hd : kk.desc d) :
    Instr.sameNow d u e = some b ∧ (b = true → k = j ∧ e = u ∧ ∀ n, Instr.sameBits (n + 1) e u = true) := by
  cases kk <;> cases k <;> simp [KK.fits] at hk
  · cases h1
    cases j <;> simp [pvEq] at hp
    cases h2
    obtain ⟨rfl, rfl⟩ := hp
    obtain ⟨kd, rfl⟩ := hd
    refine ⟨by simp [Instr.sameNow], fun hb => ?_⟩
    simp at hb; subst hb
    exact ⟨rfl, rfl, fun n => by simp [Instr.sameBits, ba_beq]⟩
  · cases h1
    cases j <;> simp [pvEq] at hp
    cases h2
    subst hp
    cases hd
    refine ⟨by simp [Instr.sameNow, ba_beq], fun hb => ?_⟩
    simp at hb; subst hb
    exact ⟨rfl, rfl, fun n => by simp [Instr.sameBits, ba_beq]⟩
  · cases h1
    cases j <;> simp [pvEq] at hp
    cases h2
    subst hp
    cases hd
    refine ⟨by simp [Instr.sameNow], fun hb => ?_⟩
    simp at hb; subst hb
    exact ⟨rfl, rfl, fun n => by simp [Instr.sameBits, ba_beq]⟩
theorem find_sound {kk : KK} {k : PV} {u : Value} {d : TypeDesc} (hk : kk.fits k = true) (hd : kk.desc d) : ∀ {kv : List (PV × LV)} {es : List MapEntry} (i0 : Nat),
    VP G.F k u → es.length = kv.length → (∀ (i : Nat) j v, kv[i]? = some (j, v) → ∃ e, es[i]? = some e ∧ VP G.F j e.key ∧ VL G v e.val) →
    (∀ r, mfind k kv = some r → (∃ j v e, r = some v ∧ kv[j]? = some (k, v) ∧ es[j]? = some e ∧ Instr.findNow d u es i0 = some (some (i0 + j, e.val)) ∧ VL G v e.val) ∨ (r = none ∧ Instr.findNow d u es i0 = some none)) ∧
    (∀ v' kv', mset k v' kv = some kv' → (∃ j v e, kv' = kv.set j (k, v') ∧ kv[j]? = some (k, v) ∧ es[j]? = some e ∧ e.key = u ∧ Instr.findNow d u es i0 = some (some (i0 + j, e.val)) ∧ ∀ n, Instr.sameBits (n + 1) e.key u = true) ∨
      (kv' = kv ++ [(k, v')] ∧ Instr.findNow d u es i0 = some none)) ∧
    (∀ kv', mdel k kv = some kv' → (∃ j e, kv' = kv.eraseIdx j ∧ es[j]? = some e ∧ j < kv.length ∧ Instr.findNow d u es i0 = some (some (i0 + j, e.val))) ∨ (kv' = kv ∧ Instr.findNow d u es i0 = some none))
  | [], es, i0, hu, hl, he => by
    obtain rfl : es = [] := by simpa using hl
    refine ⟨fun r hr => ?_, fun v' kv' hr => ?_, fun kv' hr => ?_⟩
    · simp only [mfind] at hr; cases hr; exact .inr ⟨rfl, rfl⟩
    · simp only [mset] at hr; cases hr; exact .inr ⟨rfl, rfl⟩
    · simp only [mdel] at hr; cases hr; exact .inr ⟨rfl, rfl⟩
  | (j, v) :: kv, es, i0, hu, hl, he => by
    obtain ⟨e, h0, h1, h2⟩ := he 0 j v rfl
    cases es with
    | nil => simp at h0
    | cons e' es =>
      simp at h0; subst h0
      obtain ⟨r1, r2, r3⟩ := find_sound (kk := kk) hk hd (kv := kv) (es := es) (i0 + 1) hu (by simpa using hl) (fun i j v hi => by simpa using he (i + 1) j v (by simpa using hi))
      cases hp : pvEq k j with
      | none => exact ⟨fun r hr => by simp [mfind, hp] at hr, fun v' kv' hr => by simp [mset, hp] at hr, fun kv' hr => by simp [mdel, hp] at hr⟩
      | some b =>
        obtain ⟨s1, s2⟩ := vp_scalar hk hu h1 hp hd
        cases b with
        | true =>
          obtain ⟨rfl, hek, hsb⟩ := s2 rfl
          have hf : Instr.findNow d u (e' :: es) i0 = some (some (i0, e'.val)) := by simp [Instr.findNow, s1]
          refine ⟨fun r hr => ?_, fun v' kv' hr => ?_, fun kv' hr => ?_⟩
          · simp [mfind, hp] at hr; subst hr
            exact .inl ⟨0, v, e', rfl, rfl, rfl, hf, h2⟩
          · simp [mset, hp] at hr; subst hr
            exact .inl ⟨0, v, e', rfl, rfl, rfl, hek, hf, hsb⟩
          · simp [mdel, hp] at hr; subst hr
            exact .inl ⟨0, e', rfl, rfl, by simp, hf⟩
        | false =>
          have hf : Instr.findNow d u (e' :: es) i0 = Instr.findNow d u es (i0 + 1) := by simp [Instr.findNow, s1]
          rw [hf]
          refine ⟨fun r hr => ?_, fun v' kv' hr => ?_, fun kv' hr => ?_⟩
          · simp only [mfind, hp] at hr
            rcases r1 r hr with ⟨q, x, e, a1, a2, a3, a4, a5⟩ | ⟨a1, a2⟩
            · exact .inl ⟨q + 1, x, e, a1, by simpa using a2, by simpa using a3, by rw [a4]; congr 3; omega, a5⟩
            · exact .inr ⟨a1, a2⟩
          · simp only [mset, hp] at hr
            split at hr
            · rename_i l hl'
              cases hr
              rcases r2 v' l hl' with ⟨q, x, e, a1, a2, a3, a4, a5, a6⟩ | ⟨a1, a2⟩
              · exact .inl ⟨q + 1, x, e, by rw [a1]; rfl, by simpa using a2, by simpa using a3, a4, by rw [a5]; congr 3; omega, a6⟩
              · exact .inr ⟨by rw [a1]; rfl, a2⟩
            · cases hr
          · simp only [mdel, hp] at hr
            split at hr
            · rename_i l hl'
              cases hr
              rcases r3 l hl' with ⟨q, e, a1, a2, a3, a4⟩ | ⟨a1, a2⟩
              · exact .inl ⟨q + 1, e, by rw [a1]; rfl, by simpa using a2, by simpa using a3, by rw [a4]; congr 3; omega⟩
              · exact .inr ⟨by rw [a1], a2⟩
            · cases hr
theorem run_findKey {kt : TypeId} {d : TypeDesc} (hd : P.underlying kt = some d) {u : Value} {es : List MapEntry} {r : Option (Nat × Value)} (h : Instr.findNow d u es 0 = some r) (w : World) :
    (Instr.findKey kt u es).run P w = .ok r w := by
  simp [Instr.findKey, run_underlying hd, h]
theorem mapOk_list {es : Array MapEntry} {kv : List (PV × LV)} (h : mapOk G es kv) : es.toList.length = kv.length ∧ ∀ (i : Nat) j v, kv[i]? = some (j, v) → ∃ e, es.toList[i]? = some e ∧ VP G.F j e.key ∧ VL G v e.val :=
  ⟨by simpa using h.1, fun i j v hi => by simpa using h.2 i j v hi⟩
theorem op_lookup {ty kt e : TypeId} {x i : Operand} {ok : Bool} (ho : o.op = .lookup ty x i ok) (hty : P.underlying ty = some (.map kt e)) {inf : TypeInfo} (hi : P.info? e = some inf) {z : Value} (hz : inf.zero = some z)
    {zv : LV} (hzv : constLV z = some zv) {kk : KK} (hkk : keyOk P kt = some kk) {x' i' : LX} (hx' : compX x = some x') (hi' : compX i = some i') {k : PV} (hk : (i'.ev t).toPV = some k) (hf : kk.fits k = true)
    {r : Option LV} (hr : (x'.ev t = .p .nilm ∧ r = none) ∨ ∃ q kv, x'.ev t = .mp q ∧ st[q]? = some (.map kv) ∧ mfind k kv = some r)
    (h : WR G st w) (hx : XsR G t a o.op) : OpTo P o a w (Good G st w (if ok then .tup [r.getD zv, .p (.bool r.isSome)] else r.getD zv) st) := by
  have h1 := hx x (by rw [ho]; simp [Op.operands]) x' hx'
  have h2 := toPV_sound hk (hx i (by rw [ho]; simp [Op.operands]) i' hi')
  obtain ⟨d, hd, hkd⟩ := keyOk_inv hkk
  have hzr : (zeroValue e).run P w = .ok z w := run_zeroValue hi hz w
  have fin : ∀ (u : Value), VL G (r.getD zv) u → (Instr.lookup ty (a.eval x) (a.eval i) ok).run P w = .ok (if ok then .tuple #[u, .bool r.isSome] else u) w → OpTo P o a w (Good G st w (if ok then .tup [r.getD zv, .p (.bool r.isSome)] else r.getD zv) st) := by
    intro u hu hrun
    refine opTo_value (u := if ok then .tuple #[u, .bool r.isSome] else u) (w' := w) (by simp only [execOp, ho, Sem.run_bind, hrun, Result.andThen_ok, Sem.run_pure]) (.same h ?_)
    cases ok
    · exact hu
    · refine .tup _ rfl ?_
      intro n y hy
      match n, hy with
      | 0, hy => simp at hy; subst hy; exact hu
      | 1, hy => simp at hy; subst hy; exact .p (.bool _)
  rcases hr with ⟨e1, rfl⟩ | ⟨q, kv, e1, hst, hm⟩
  · rw [e1] at h1
    refine fin z (constLV_sound G hzv) ?_
    have hfk : (Instr.findKey kt (a.eval i) []).run P w = .ok none w := run_findKey hd rfl w
    simp [Instr.lookup, run_underlying hty, h1.nilm_inv, run_checkKey hd hkd, hfk, hzr]
  · rw [e1] at h1
    obtain ⟨blk, hl, hu⟩ := h1.mp_inv
    obtain ⟨blk', e3, es, c, hb, hmo, hstp⟩ := h.map q kv hst _ hl
    cases e3
    obtain ⟨m1, m2⟩ := mapOk_list hmo
    have hfs := (find_sound (kk := kk) hf hkd 0 h2 m1 m2).1 r hm
    rcases hfs with ⟨j, v, e', rfl, _, _, hfn, hvl⟩ | ⟨rfl, hfn⟩
    · refine fin e'.val hvl ?_
      have hfk := run_findKey (P := P) hd hfn w
      simp [Instr.lookup, run_underlying hty, hu, getObj, Sem.run, hb, run_checkKey hd hkd, hfk]
    · refine fin z (constLV_sound G hzv) ?_
      have hfk := run_findKey (P := P) hd hfn w
      simp [Instr.lookup, run_underlying hty, hu, getObj, Sem.run, hb, run_checkKey hd hkd, hfk, hzr]
theorem op_mapUpdate {ty kt e : TypeId} {m k x : Operand} (ho : o.op = .mapUpdate ty m k x ∨ o.op = .insert ty m k x) (hty : P.underlying ty = some (.map kt e))
    {kk : KK} (hkk : keyOk P kt = some kk) {m' k' x' : LX} (hm' : compX m = some m') (hk' : compX k = some k') (hx' : compX x = some x') {q : Nat} (hq : m'.ev t = .mp q) {kp : PV} (hk : (k'.ev t).toPV = some kp) (hf : kk.fits kp = true)
    {kv kv' : List (PV × LV)} (hst : st[q]? = some (.map kv)) (hset : mset kp (x'.ev t) kv = some kv')
    (h : WR G st w) (hx : XsR G t a o.op) : OpTo P o a w (Good G st w (.tup []) (st.set q (.map kv'))) := by
  have h1 := hx m (by rcases ho with ho | ho <;> rw [ho] <;> simp [Op.operands]) m' hm'
  have h2 := toPV_sound hk (hx k (by rcases ho with ho | ho <;> rw [ho] <;> simp [Op.operands]) k' hk')
  have h3 := hx x (by rcases ho with ho | ho <;> rw [ho] <;> simp [Op.operands]) x' hx'
  obtain ⟨d, hd, hkd⟩ := keyOk_inv hkk
  rw [hq] at h1
  obtain ⟨blk, hl, hu⟩ := h1.mp_inv
  obtain ⟨blk', e3, es, c, hb, hmo, hstp⟩ := h.map q kv hst _ hl
  cases e3
  obtain ⟨m1, m2⟩ := mapOk_list hmo
  have hlt := lt_of_heap hb
  have fin : ∀ (es' : Array MapEntry) (c' : Nat), mapOk G es' kv' → Stamps es' c' → (Instr.mapUpdate ty (a.eval m) (a.eval k) (a.eval x)).run P w = .ok () { w with heap := w.heap.setIfInBounds blk (.map es' c') } →
      OpTo P o a w (Good G st w (.tup []) (st.set q (.map kv'))) := by
    intro es' c' hmk hst2 hrun
    obtain ⟨r1, r2⟩ := h.setObj hst hl (x' := .map kv') (ob := .map es' c') (.inr (.inl ⟨kv, kv', es', c', rfl, rfl, rfl, rfl, hmk, hst2⟩)) (sameBut_set w blk (.map es' c')) (by simp [hlt])
    refine opTo_skip ?_ ⟨G, r1, .unit G, r2⟩
    rcases ho with ho | ho <;> simp only [execOp, ho, Sem.run_bind, hrun, Result.andThen_ok, Sem.run_pure]
  have hfs := (find_sound (kk := kk) hf hkd 0 h2 m1 m2).2.1 _ _ hset
  rcases hfs with ⟨j, v, e', rfl, hj1, hj2, hek, hfn, hsb⟩ | ⟨rfl, hfn⟩
  · have hfk := run_findKey (P := P) hd hfn w
    have hj2' : es[j]? = some e' := by simpa using hj2
    have hjl := (Array.getElem?_eq_some_iff.1 hj2').1
    refine fin (es.modify j fun e => { e with key := a.eval k, val := a.eval x }) c ?_ (hstp.modify j _ (fun _ => rfl)) ?_
    · refine ⟨by simp [hmo.1], fun i kq vq hi => ?_⟩
      by_cases hij : i = j
      · subst hij
        rw [List.getElem?_set_self (by rw [← hmo.1]; exact hjl)] at hi
        cases hi
        exact ⟨_, by rw [Array.getElem?_modify, if_pos rfl, hj2']; rfl, h2, h3⟩
      · rw [List.getElem?_set_ne (Ne.symm hij)] at hi
        obtain ⟨e2, a1, a2, a3⟩ := hmo.2 i kq vq hi
        exact ⟨e2, by rw [Array.getElem?_modify, if_neg (Ne.symm hij)]; exact a1, a2, a3⟩
    · have hst' : (Instr.keyThatStays (((es[0 + j]?).map (·.key)).getD (a.eval k)) (a.eval k)).run P w = .ok (a.eval k) w := by
        rw [Nat.zero_add, hj2']
        have := hsb 9999
        simp only [Option.map_some, Option.getD_some, Instr.keyThatStays]
        rw [if_pos this]; rfl
      rw [Nat.zero_add] at hfk hst'
      simp only [Instr.mapUpdate, Sem.run_bind, run_underlying hty, hu, Result.andThen_ok, getObj, Sem.run, hb, run_checkKey hd hkd, hfk, hst', setObj]
  · have hfk := run_findKey (P := P) hd hfn w
    refine fin (es.push { key := a.eval k, val := a.eval x, born := c }) (c + 1) ?_ (hstp.push _ rfl) ?_
    · refine ⟨by simp [hmo.1], fun i kq vq hi => ?_⟩
      rcases get_snoc_cases hi with ⟨hlt', hi⟩ | ⟨rfl, e2⟩
      · obtain ⟨e2, a1, a2, a3⟩ := hmo.2 i kq vq hi
        exact ⟨e2, by rw [Array.getElem?_push, if_neg (by rw [hmo.1]; omega)]; exact a1, a2, a3⟩
      · cases e2
        exact ⟨{ key := a.eval k, val := a.eval x, born := c }, by rw [← hmo.1]; simp, h2, h3⟩
    · simp only [Instr.mapUpdate, Sem.run_bind, run_underlying hty, hu, Result.andThen_ok, getObj, Sem.run, hb, run_checkKey hd hkd, hfk, setObj]
theorem op_delete {ty u kt e : TypeId} {m k : Operand} (ho : o.op = .call { callee := .builtin .delete, args := #[m, k], argTypes := #[ty, u] }) (hty : P.underlying ty = some (.map kt e))
    {kk : KK} (hkk : keyOk P kt = some kk) {m' k' : LX} (hm' : compX m = some m') (hk' : compX k = some k') {q : Nat} (hq : m'.ev t = .mp q) {kp : PV} (hk : (k'.ev t).toPV = some kp) (hf : kk.fits kp = true)
    {kv kv' : List (PV × LV)} (hst : st[q]? = some (.map kv)) (hset : mdel kp kv = some kv')
    (h : WR G st w) (hx : XsR G t a o.op) : OpTo P o a w (Good G st w (.tup []) (st.set q (.map kv'))) := by
  have h1 := hx m (by rw [ho]; simp [Op.operands, Call.operands]) m' hm'
  have h2 := toPV_sound hk (hx k (by rw [ho]; simp [Op.operands, Call.operands]) k' hk')
  obtain ⟨d, hd, hkd⟩ := keyOk_inv hkk
  rw [hq] at h1
  obtain ⟨blk, hl, hu⟩ := h1.mp_inv
  obtain ⟨blk', e3, es, c, hb, hmo, hstp⟩ := h.map q kv hst _ hl
  cases e3
  obtain ⟨m1, m2⟩ := mapOk_list hmo
  have hlt := lt_of_heap hb
  have fin : ∀ (es' : Array MapEntry) (c' : Nat), mapOk G es' kv' → Stamps es' c' → (Builtin.delete_ #[ty, u] o.type #[a.eval m, a.eval k]).run P w = .ok (.tuple #[]) { w with heap := w.heap.setIfInBounds blk (.map es' c') } →
      OpTo P o a w (Good G st w (.tup []) (st.set q (.map kv'))) := by
    intro es' c' hmk hst2 hrun
    obtain ⟨r1, r2⟩ := h.setObj hst hl (x' := .map kv') (ob := .map es' c') (.inr (.inl ⟨kv, kv', es', c', rfl, rfl, rfl, rfl, hmk, hst2⟩)) (sameBut_set w blk (.map es' c')) (by simp [hlt])
    refine opTo_value (u := .tuple #[]) ?_ ⟨G, r1, .unit G, r2⟩
    simp [execOp, ho, resolve, invoke, builtin, hrun]
  have hfs := (find_sound (kk := kk) hf hkd 0 h2 m1 m2).2.2 _ hset
  rcases hfs with ⟨j, e', rfl, hj2, hjl, hfn⟩ | ⟨rfl, hfn⟩
  · have hfk := run_findKey (P := P) hd hfn w
    have hj2' : es[j]? = some e' := by simpa using hj2
    have hjl' := (Array.getElem?_eq_some_iff.1 hj2').1
    refine fin (es.eraseIdxIfInBounds j) c ?_ (hstp.erase j) ?_
    · have hel : (es.eraseIdxIfInBounds j).toList = es.toList.eraseIdx j := by simp [Array.eraseIdxIfInBounds, hjl']
      refine ⟨?_, fun i kq vq hi => ?_⟩
      · rw [← Array.length_toList, hel, List.length_eraseIdx, List.length_eraseIdx]
        simp [hmo.1]
      · rw [← Array.getElem?_toList, hel]
        rw [List.getElem?_eraseIdx] at hi ⊢
        split at hi
        · rename_i hij
          obtain ⟨e2, a1, a2, a3⟩ := hmo.2 i kq vq hi
          exact ⟨e2, by rw [if_pos hij]; simpa using a1, a2, a3⟩
        · rename_i hij
          obtain ⟨e2, a1, a2, a3⟩ := hmo.2 (i + 1) kq vq hi
          exact ⟨e2, by rw [if_neg hij]; simpa using a1, a2, a3⟩
    · rw [Nat.zero_add] at hfk
      simp only [Builtin.delete_, List.getElem?_toArray, List.getElem?_cons_zero, List.getElem?_cons_succ, Sem.run_bind, run_underlying hty, hu, Result.andThen_ok, getObj, Sem.run, hb, run_checkKey hd hkd, hfk, setObj, Sem.run_pure]
  · have hfk := run_findKey (P := P) hd hfn w
    refine fin es c hmo hstp ?_
    simp only [Builtin.delete_, List.getElem?_toArray, List.getElem?_cons_zero, List.getElem?_cons_succ, Sem.run_bind, run_underlying hty, hu, Result.andThen_ok, getObj, Sem.run, hb, run_checkKey hd hkd, hfk, setObj, Sem.run_pure]
end ops
end Go.LS
set_option linter.unusedVariables false
set_option linter.unusedSimpArgs false
namespace Go.LS
theorem LV.ren_ren (r s : Nat → Nat) (v : LV) : (∀ q ∈ v.refs, s (r q) = q) → (v.ren r).ren s = v := by
  induction v using LV.rec (motive_2 := fun l => (∀ q ∈ l.flatMap LV.refs, s (r q) = q) → (l.map (LV.ren r)).map (LV.ren s) = l) with
  | und => intro _; simp [LV.ren]
  | anyb => intro _; simp [LV.ren]
  | p => intro _; simp [LV.ren]
  | tight => intro _; simp [LV.ren]
  | pin => intro _; simp [LV.ren]
  | sl es t f => intro h; simp [LV.ren]; exact h t (by simp [LV.refs])
  | gr t n => intro h; simp [LV.ren]; exact h t (by simp [LV.refs])
  | ptr o i off => intro h; simp [LV.ren]; exact h o (by simp [LV.refs])
  | rs o i off => intro h; simp [LV.ren]; exact h o (by simp [LV.refs])
  | mp o => intro h; simp [LV.ren]; exact h o (by simp [LV.refs])
  | it o => intro h; simp [LV.ren]; exact h o (by simp [LV.refs])
  | fn f a b ih1 ih2 =>
    intro h
    simp only [LV.refs, LV.refsL_eq] at h
    simp only [LV.ren, LV.renL_eq, LV.fn.injEq, true_and]
    exact ⟨ih1 fun q hq => h q (by simp only [List.mem_append]; exact .inl hq), ih2 fun q hq => h q (by simp only [List.mem_append]; exact .inr hq)⟩
  | ifc t v ih => intro h; simp only [LV.ren, LV.ifc.injEq, true_and]; exact ih (by simpa [LV.refs] using h)
  | agg cs ih => intro h; simp only [LV.ren, LV.renL_eq, LV.agg.injEq]; exact ih (by simpa [LV.refs, LV.refsL_eq] using h)
  | tup cs ih => intro h; simp only [LV.ren, LV.renL_eq, LV.tup.injEq]; exact ih (by simpa [LV.refs, LV.refsL_eq] using h)
  | nil => rfl
  | cons x l ih1 ih2 =>
    rename_i h
    simp only [List.map_cons, List.cons.injEq]
    exact ⟨ih1 fun q hq => h q (by simp only [List.flatMap_cons, List.mem_append]; exact .inl hq), ih2 fun q hq => h q (by simp only [List.flatMap_cons, List.mem_append]; exact .inr hq)⟩
def Real (G : Gh) (o : Nat) : Prop := G.loc o ≠ none ∨ ∃ f, G.hist o f ≠ none
theorem VL.real {G : Gh} {v : LV} {u : Value} (h : VL G v u) : ∀ q ∈ v.refs, Real G q := by
  induction h with
  | und => intro q hq; simp [LV.refs] at hq
  | anyb => intro q hq; simp [LV.refs] at hq
  | p => intro q hq; simp [LV.refs] at hq
  | tight => intro q hq; simp [LV.refs] at hq
  | pin => intro q hq; simp [LV.refs] at hq
  | sl h1 h2 h3 h4 => intro q hq; simp [LV.refs] at hq; subst hq; exact .inr ⟨_, by rw [h4]; simp⟩
  | gr h1 h2 h3 => intro q hq; simp [LV.refs] at hq; subst hq; exact .inr ⟨_, by rw [h3]; simp⟩
  | ptr h => intro q hq; simp [LV.refs] at hq; subst hq; exact .inl (by rw [h]; simp)
  | rs h => intro q hq; simp [LV.refs] at hq; subst hq; exact .inl (by rw [h]; simp)
  | mp h => intro q hq; simp [LV.refs] at hq; subst hq; exact .inl (by rw [h]; simp)
  | it h => intro q hq; simp [LV.refs] at hq; subst hq; exact .inl (by rw [h]; simp)
  | fn f vf vc s1 s2 hf hc ih1 ih2 =>
    intro q hq
    simp only [LV.refs, LV.refsL_eq, List.mem_append, List.mem_flatMap] at hq
    rcases hq with ⟨x, hx, hq⟩ | ⟨x, hx, hq⟩
    · obtain ⟨i, hi⟩ := List.getElem?_of_mem hx; exact ih1 i x hi q hq
    · obtain ⟨i, hi⟩ := List.getElem?_of_mem hx; exact ih2 i x hi q hq
  | ifc t _ ih => intro q hq; exact ih q (by simpa [LV.refs] using hq)
  | agg vs s1 s2 _ ih =>
    intro q hq
    simp only [LV.refs, LV.refsL_eq, List.mem_flatMap] at hq
    obtain ⟨x, hx, hq⟩ := hq
    obtain ⟨i, hi⟩ := List.getElem?_of_mem hx; exact ih i x hi q hq
  | tup vs s1 _ ih =>
    intro q hq
    simp only [LV.refs, LV.refsL_eq, List.mem_flatMap] at hq
    obtain ⟨x, hx, hq⟩ := hq
    obtain ⟨i, hi⟩ := List.getElem?_of_mem hx; exact ih i x hi q hq
theorem WR.real_refs {G : Gh} {st : List LObj} {w : World} (h : WR G st w) {o : Nat} (ho : Real G o) : ∀ q ∈ ((st[o]?).getD .dead).refs, Real G q := by
  intro q hq
  cases hs : st[o]? with
  | none => simp [hs, LObj.refs] at hq
  | some x =>
    simp only [hs, Option.getD_some] at hq
    have hloc : (∀ n hw, x ≠ .spare n hw) → ∃ l, G.loc o = some l := by
      intro hx
      rcases ho with ho | ⟨f, ho⟩
      · exact Option.ne_none_iff_exists'.1 ho
      · exact (ho (h.kind o x hs hx f)).elim
    cases x with
    | dead => simp [LObj.refs] at hq
    | spare n hw => simp [LObj.refs] at hq
    | siter s p => simp [LObj.refs] at hq
    | row es =>
      obtain ⟨l, hl⟩ := hloc (by intros; simp)
      obtain ⟨blk, size, n, rfl, arr, ty, _, _, _, hr⟩ := h.row o es hs l hl
      simp only [LObj.refs, List.mem_flatMap] at hq
      obtain ⟨e, he, c, hc, hq⟩ := hq
      obtain ⟨i, hi⟩ := List.getElem?_of_mem he
      obtain ⟨j, hj⟩ := List.getElem?_of_mem hc
      obtain ⟨u, _, hv, _⟩ := hr.2 i j c (by simp [at2, hi, hj])
      exact hv.real q hq
    | map kv =>
      obtain ⟨l, hl⟩ := hloc (by intros; simp)
      obtain ⟨blk, rfl, es, c, _, hm, _⟩ := h.map o kv hs l hl
      simp only [LObj.refs, List.mem_flatMap] at hq
      obtain ⟨⟨k, v⟩, he, hq⟩ := hq
      obtain ⟨i, hi⟩ := List.getElem?_of_mem he
      obtain ⟨u, _, _, hv⟩ := hm.2 i k v hi
      exact hv.real q hq
theorem reach_real {G : Gh} {st : List LObj} {w : World} (h : WR G st w) : ∀ (n : Nat) (todo acc : List Nat), (∀ o ∈ todo, Real G o) → (∀ o ∈ acc, Real G o) → ∀ o ∈ reach st n todo acc, Real G o
  | 0, todo, acc, h1, h2 => by simpa [reach] using h2
  | n + 1, [], acc, h1, h2 => by simpa [reach] using h2
  | n + 1, o :: todo, acc, h1, h2 => by
    simp only [reach]
    split
    · exact reach_real h n todo acc (fun q hq => h1 q (by simp [hq])) h2
    · refine reach_real h n _ _ ?_ ?_
      · intro q hq
        rcases List.mem_append.1 hq with hq | hq
        · exact h.real_refs (h1 o (by simp)) q hq
        · exact h1 q (by simp [hq])
      · intro q hq
        rcases List.mem_append.1 hq with hq | hq
        · exact h2 q hq
        · simp at hq; subst hq; exact h1 q (by simp)
def Gh.pull (G : Gh) (ids : List Nat) : Gh := { F := G.F, loc := fun j => (ids[j]?).bind G.loc, hist := fun j f => (ids[j]?).bind fun o => G.hist o f }
theorem closed_inv {st : List LObj} {ids : List Nat} (h : closed st ids = true) : ∀ o ∈ ids, o < st.length ∧ ∀ q ∈ ((st[o]?).getD .dead).refs, q ∈ ids := by
  intro o ho
  have := List.all_eq_true.1 h o ho
  simp only [Bool.and_eq_true, decide_eq_true_eq, List.all_eq_true] at this
  exact ⟨this.1, fun q hq => by simpa using this.2 q hq⟩
theorem pull_at {G : Gh} {ids : List Nat} {q : Nat} (hq : q ∈ ids) : (G.pull ids).loc (ids.idxOf q) = G.loc q ∧ ∀ f, (G.pull ids).hist (ids.idxOf q) f = G.hist q f := by
  have : ids[ids.idxOf q]? = some q := by
    rw [List.getElem?_eq_getElem (List.idxOf_lt_length_of_mem hq)]
    simp
  simp [Gh.pull, this]
theorem VL.pull {G : Gh} {ids : List Nat} {v : LV} {u : Value} (h : VL G v u) (hr : ∀ q ∈ v.refs, q ∈ ids) : VL (G.pull ids) (v.ren fun q => ids.idxOf q) u :=
  VL.ren (G := G) (G' := G.pull ids) (fun _ _ _ h => h) _ h (fun o ho l hl => by rw [(pull_at (hr o ho)).1]; exact hl) (fun o ho f s hs => by rw [(pull_at (hr o ho)).2]; exact hs)
theorem sub_at {st : List LObj} {ids : List Nat} (hc : closed st ids = true) {j : Nat} {x : LObj} (h : (sub st ids)[j]? = some x) :
    ∃ o y, ids[j]? = some o ∧ o ∈ ids ∧ st[o]? = some y ∧ x = y.ren (fun q => ids.idxOf q) := by
  simp only [sub, List.getElem?_map] at h
  cases hi : ids[j]? with
  | none => simp [hi] at h
  | some o =>
    simp [hi] at h
    have hm := List.mem_of_getElem? hi
    have hlt := (closed_inv hc o hm).1
    refine ⟨o, st[o], rfl, hm, by simp [hlt], ?_⟩
    rw [← h]; simp [hlt]
theorem sub_get {st : List LObj} {ids : List Nat} {j o : Nat} {y : LObj} (hi : ids[j]? = some o) (hy : st[o]? = some y) : (sub st ids)[j]? = some (y.ren fun q => ids.idxOf q) := by
  simp [sub, hi, hy]
theorem at2_map {es : List (List LV)} {r : Nat → Nat} {i j : Nat} {c : LV} (h : at2 (es.map fun e => e.map (LV.ren r)) i j = some c) : ∃ d, at2 es i j = some d ∧ c = d.ren r := by
  unfold at2 at h ⊢
  rw [List.getElem?_map] at h
  cases hi : es[i]? with
  | none => simp [hi] at h
  | some e =>
    simp only [hi, Option.map_some, Option.bind_some, List.getElem?_map] at h ⊢
    cases hj : e[j]? with
    | none => simp [hj] at h
    | some d => simp [hj] at h; exact ⟨d, rfl, h.symm⟩
theorem mem_at2 {es : List (List LV)} {i j : Nat} {c : LV} {q : Nat} (h : at2 es i j = some c) (hq : q ∈ c.refs) : q ∈ (LObj.row es).refs := by
  unfold at2 at h
  cases hi : es[i]? with
  | none => simp [hi] at h
  | some e =>
    simp [hi] at h
    simp only [LObj.refs, List.mem_flatMap]
    exact ⟨e, List.mem_of_getElem? hi, c, List.mem_of_getElem? h, hq⟩
theorem rowOk.ren {G G' : Gh} {r : Nat → Nat} {arr : Array Value} {es : List (List LV)} {size : Nat} (h : rowOk G arr es size)
    (hv : ∀ i j c, at2 es i j = some c → ∀ u, VL G c u → VL G' (c.ren r) u) : rowOk G' arr (es.map fun e => e.map (LV.ren r)) size := by
  refine ⟨fun e he => ?_, fun i j c hc => ?_⟩
  · obtain ⟨e', he', rfl⟩ := List.mem_map.1 he; simp [h.1 e' he']
  · obtain ⟨d, hd, rfl⟩ := at2_map hc
    obtain ⟨u, a1, a2, a3⟩ := h.2 i j d hd
    exact ⟨u, a1, hv i j d hd u a2, a3⟩
theorem mapOk.ren {G G' : Gh} {r : Nat → Nat} {es : Array MapEntry} {kv : List (PV × LV)} (h : mapOk G es kv) (hF : ∀ b o v, G.F b o = some v → G'.F b o = some v)
    (hv : ∀ (i : Nat) k c, kv[i]? = some (k, c) → ∀ u, VL G c u → VL G' (c.ren r) u) : mapOk G' es (kv.map fun x => (x.1, x.2.ren r)) := by
  refine ⟨by simp [h.1], fun i k v hi => ?_⟩
  rw [List.getElem?_map] at hi
  cases hx : kv[i]? with
  | none => simp [hx] at hi
  | some x =>
    obtain ⟨k', c⟩ := x
    simp [hx] at hi
    obtain ⟨rfl, rfl⟩ := hi
    obtain ⟨e, a1, a2, a3⟩ := h.2 i k' c hx
    exact ⟨e, a1, a2.mono hF, hv i k' c hx _ a3⟩
theorem mem_map_refs {kv : List (PV × LV)} {i : Nat} {k : PV} {c : LV} {q : Nat} (h : kv[i]? = some (k, c)) (hq : q ∈ c.refs) : q ∈ (LObj.map kv).refs := by
  simp only [LObj.refs, List.mem_flatMap]
  exact ⟨(k, c), List.mem_of_getElem? h, hq⟩
theorem owns_pull {G : Gh} {st : List LObj} {ids : List Nat} (hc : closed st ids = true) {j b : Nat} (h : Owns (G.pull ids) (sub st ids) j b) : ∃ o, ids[j]? = some o ∧ Owns G st o b := by
  unfold Owns at h
  cases hs : (sub st ids)[j]? with
  | none => rw [hs] at h; exact h.elim
  | some x =>
    obtain ⟨o, y, hi, hm, hy, rfl⟩ := sub_at hc hs
    rw [hs] at h
    refine ⟨o, hi, ?_⟩
    unfold Owns
    rw [hy]
    cases y <;> simp_all [LObj.ren, Gh.pull]
theorem WR.pull {G : Gh} {st : List LObj} {w : World} (h : WR G st w) {ids : List Nat} (hc : closed st ids = true) (hn : ids.Nodup) : WR (G.pull ids) (sub st ids) w := by
  have hcl := closed_inv hc
  have hlen : (sub st ids).length = ids.length := by simp [sub]
  have hloc : ∀ j o, ids[j]? = some o → (G.pull ids).loc j = G.loc o := fun j o hi => by simp [Gh.pull, hi]
  have hhist : ∀ j o f, ids[j]? = some o → (G.pull ids).hist j f = G.hist o f := fun j o f hi => by simp [Gh.pull, hi]
  refine ⟨h.fr, ?_, ?_, ?_, ?_, ?_, ?_, ?_, ?_⟩
  · intro j hj
    rw [hlen] at hj
    simp [Gh.pull, List.getElem?_eq_none hj]
  · intro j es hs l hl
    obtain ⟨o, y, hi, hm, hy, e⟩ := sub_at hc hs
    cases y <;> simp only [LObj.ren, reduceCtorEq, LObj.row.injEq] at e
    rename_i es0
    subst e
    rw [hloc j o hi] at hl
    obtain ⟨blk, size, n, e, arr, ty, hb, r1, r2, r3⟩ := h.row o es0 hy l hl
    refine ⟨blk, size, n, e, arr, ty, hb, r1, by simpa using r2, r3.ren fun i j c hcc u hv => hv.pull fun q hq => (hcl o hm).2 q ?_⟩
    rw [hy]; exact mem_at2 hcc hq
  · intro j kv hs l hl
    obtain ⟨o, y, hi, hm, hy, e⟩ := sub_at hc hs
    cases y <;> simp only [LObj.ren, reduceCtorEq, LObj.map.injEq] at e
    rename_i kv0
    subst e
    rw [hloc j o hi] at hl
    obtain ⟨blk, e, es, c, hb, r, rst⟩ := h.map o kv0 hy l hl
    refine ⟨blk, e, es, c, hb, r.ren (fun _ _ _ h => h) (fun i k c hcc u hv => hv.pull fun q hq => (hcl o hm).2 q ?_), rst⟩
    rw [hy]; exact mem_map_refs hcc hq
  · intro j s p hs l hl
    obtain ⟨o, y, hi, hm, hy, e⟩ := sub_at hc hs
    cases y <;> simp only [LObj.ren, reduceCtorEq, LObj.siter.injEq] at e
    obtain ⟨rfl, rfl⟩ := e
    rw [hloc j o hi] at hl
    exact h.iter o _ _ hy l hl
  · intro j n hw hs
    obtain ⟨o, y, hi, hm, hy, e⟩ := sub_at hc hs
    cases y <;> simp only [LObj.ren, reduceCtorEq, LObj.spare.injEq] at e
    obtain ⟨rfl, rfl⟩ := e
    obtain ⟨h1, h2⟩ := h.spare o _ _ hy
    exact ⟨fun f hf => by rw [hhist j o f hi]; exact h1 f hf, fun s hs => h2 s (by rw [hhist j o _ hi] at hs; exact hs)⟩
  · intro j j' b h1 h2
    obtain ⟨o, hi, ho⟩ := owns_pull hc h1
    obtain ⟨o', hi', ho'⟩ := owns_pull hc h2
    have := h.uniq o o' b ho ho'
    subst this
    have hlt := (List.getElem?_eq_some_iff.1 hi).1
    exact (List.getElem?_inj hlt hn).1 (hi.trans hi'.symm)
  · intro j b h1 h2 off
    obtain ⟨o, hi, ho⟩ := owns_pull hc h1
    refine h.ownF o b ho (fun ⟨n, k, e⟩ => h2 ⟨n, k, ?_⟩) off
    rw [sub_get hi e]; rfl
  · intro j x hs hx f
    obtain ⟨o, y, hi, hm, hy, rfl⟩ := sub_at hc hs
    rw [hhist j o f hi]
    refine h.kind o y hy (fun n k e => ?_) f
    subst e
    exact hx n k rfl
theorem gc_sound {G0 G : Gh} {st0 st : List LObj} {w0 w : World} (h : WR G st w) (hx : Ext0 G0 st0 w0 G st w) (hd : ∀ o, st0.length ≤ o → G0.loc o = none ∧ ∀ f, G0.hist o f = none)
    {vs vs' : List LV} {st' : List LObj} (hg : gc st0.length vs st = some (vs', st')) {us : List Value} (hl : us.length = vs.length) (hv : ∀ (i : Nat) v u, vs[i]? = some v → us[i]? = some u → VL G v u) :
    ∃ G', WR G' st' w ∧ Ext0 G0 st0 w0 G' st' w ∧ vs'.length = vs.length ∧ ∀ (i : Nat) v u, vs'[i]? = some v → us[i]? = some u → VL G' v u := by
  unfold gc at hg
  generalize hids : gcIds st0.length st (vs.flatMap LV.refs) = ids at hg
  simp only at hg
  split at hg
  · rename_i hcond
    cases hg
    simp only [Bool.and_eq_true, decide_eq_true_eq, List.all_eq_true, List.contains_iff_mem] at hcond
    obtain ⟨⟨⟨c1, c2⟩, c3⟩, c4⟩ := hcond
    have hk : ∀ o, o < st0.length → ids[o]? = some o := by
      intro o ho
      have := congrArg (fun l : List Nat => l[o]?) c4
      simp only [List.getElem?_take, ho, if_true, List.getElem?_range ho] at this
      exact this
    refine ⟨G.pull ids, h.pull c1 c3, ⟨⟨hx.le.F, ?_, ?_⟩, hx.os, hx.tape, hx.output, hx.hsz, hx.unch, ?_, hx.newF⟩, by simp, ?_⟩
    · intro o l hl
      have ho : o < st0.length := by
        rcases Nat.lt_or_ge o st0.length with h' | h'
        · exact h'
        · rw [(hd o h').1] at hl; cases hl
      simp only [Gh.pull, hk o ho, Option.bind_some]
      exact hx.le.loc o l hl
    · intro o f s hs
      have ho : o < st0.length := by
        rcases Nat.lt_or_ge o st0.length with h' | h'
        · exact h'
        · rw [(hd o h').2 f] at hs; cases hs
      simp only [Gh.pull, hk o ho, Option.bind_some]
      exact hx.le.hist o f s hs
    · intro j b ho hb
      obtain ⟨o, _, ho⟩ := owns_pull c1 ho
      exact hx.own o b ho hb
    · intro i v u hi hu
      rw [List.getElem?_map] at hi
      cases hq : vs[i]? with
      | none => simp [hq] at hi
      | some x =>
        simp [hq] at hi; subst hi
        refine (hv i x u hq hu).pull fun q hqq => c2 q ?_
        simp only [List.mem_flatMap]
        exact ⟨x, List.mem_of_getElem? hq, hqq⟩
  · cases hg
end Go.LS
set_option linter.unusedVariables false
set_option linter.unusedSimpArgs false
namespace Go.LS
def CallOK (P : Program) (call : CallF) : Prop := ∀ f args st res st', call f args st = some (res, st') → plainFn P f = true ∧ ∀ G w us, WR G st w → ArgsR G args us →
  Calls P f us w fun e w' => ∃ u G', e = .returned u ∧ WR G' st' w' ∧ VL G' res u ∧ Ext0 G st w G' st' w'
def src (ids : List Nat) (n o : Nat) : Option Nat := if o ∈ ids then some (ids.idxOf o) else if o < n then none else some (ids.length + (o - n))
def Gh.push (G G1 : Gh) (ids : List Nat) (n : Nat) : Gh :=
  { F := G1.F, loc := fun o => match src ids n o with | some j => G1.loc j | none => G.loc o, hist := fun o f => match src ids n o with | some j => G1.hist j f | none => G.hist o f }
theorem src_back {ids : List Nat} {n : Nat} (hn : ids.Nodup) (hlt : ∀ o ∈ ids, o < n) (j : Nat) : src ids n (back ids n j) = some j := by
  unfold back
  split
  · rename_i h
    unfold src
    rw [if_pos (List.getElem_mem _)]
    congr 1
    exact List.Nodup.idxOf_getElem hn j h
  · rename_i h
    unfold src
    have h1 : ¬ (n + (j - ids.length) ∈ ids) := fun hm => by have := hlt _ hm; omega
    rw [if_neg h1, if_neg (by omega)]
    congr 1; omega
theorem back_idxOf {ids : List Nat} {n q : Nat} (hq : q ∈ ids) : back ids n (ids.idxOf q) = q := by
  unfold back
  rw [dif_pos (List.idxOf_lt_length_of_mem hq)]
  simp
theorem src_inj {ids : List Nat} {n o j : Nat} (hn : ids.Nodup) (hlt : ∀ o ∈ ids, o < n) (h : src ids n o = some j) : o = back ids n j := by
  unfold src at h
  split at h
  · rename_i hm; cases h; exact (back_idxOf hm).symm
  · split at h
    · cases h
    · rename_i h1 h2
      cases h
      unfold back
      rw [dif_neg (by omega)]
      omega
theorem putBack_len : ∀ (st : List LObj) (ids : List Nat) (xs : List LObj), (putBack st ids xs).length = st.length
  | st, [], xs => by cases xs <;> rfl
  | st, o :: ids, [] => rfl
  | st, o :: ids, x :: r => by simp [putBack, putBack_len]
theorem putBack_other : ∀ (st : List LObj) (ids : List Nat) (xs : List LObj) (o : Nat), o ∉ ids → (putBack st ids xs)[o]? = st[o]?
  | st, [], xs, o, h => by cases xs <;> rfl
  | st, q :: ids, [], o, h => rfl
  | st, q :: ids, x :: r, o, h => by
    simp only [putBack]
    rw [putBack_other _ ids r o (fun hm => h (by simp [hm])), List.getElem?_set_ne (fun e => h (by simp [e]))]
theorem putBack_at : ∀ (st : List LObj) (ids : List Nat) (xs : List LObj), ids.Nodup → ids.length = xs.length → (∀ o ∈ ids, o < st.length) → ∀ o ∈ ids, (putBack st ids xs)[o]? = xs[ids.idxOf o]?
  | st, [], xs, _, _, _, o, h => by simp at h
  | st, q :: ids, [], _, hl, _, o, h => by simp at hl
  | st, q :: ids, x :: r, hn, hl, hlt, o, h => by
    simp only [putBack]
    have hn' := List.nodup_cons.1 hn
    by_cases e : o = q
    · subst e
      rw [putBack_other _ ids r o hn'.1, List.getElem?_set_self (hlt o (by simp))]
      simp
    · have hm : o ∈ ids := by rcases List.mem_cons.1 h with h | h; · exact (e h).elim
                              · exact h
      rw [putBack_at _ ids r hn'.2 (by simpa using hl) (fun o ho => by simpa using hlt o (by simp [ho])) o hm]
      rw [List.idxOf_cons]
      have : (q == o) = false := by simpa using Ne.symm e
      rw [this]
      simp
theorem merged_get {st : List LObj} {ids : List Nat} {st1 : List LObj} (hn : ids.Nodup) (hlt : ∀ o ∈ ids, o < st.length) (hk : ids.length ≤ st1.length) (o : Nat) :
    (putBack st ids ((st1.take ids.length).map (LObj.ren (back ids st.length))) ++ (st1.drop ids.length).map (LObj.ren (back ids st.length)))[o]? =
      match src ids st.length o with
      | some j => (st1[j]?).map (LObj.ren (back ids st.length))
      | none => st[o]? := by
  have hpl := putBack_len st ids ((st1.take ids.length).map (LObj.ren (back ids st.length)))
  unfold src
  split
  · rename_i j hj
    split at hj
    · rename_i hm
      cases hj
      rw [List.getElem?_append_left (by rw [hpl]; exact hlt o hm), putBack_at st ids _ hn (by simp; omega) hlt o hm, List.getElem?_map, List.getElem?_take, if_pos (List.idxOf_lt_length_of_mem hm)]
    · rename_i hm
      split at hj
      · cases hj
      · cases hj
        rw [List.getElem?_append_right (by rw [hpl]; omega), hpl, List.getElem?_map, List.getElem?_drop]
  · rename_i hj
    split at hj
    · cases hj
    · rename_i hm
      split at hj
      · rename_i ho
        rw [List.getElem?_append_left (by rw [hpl]; exact ho), putBack_other _ _ _ _ hm]
      · cases hj
theorem VL.weak1 {G : Gh} {v : LV} {u : Value} (h : VL G v u) : VL G v.weak1 u := by
  cases h with
  | sl h _ _ _ => exact .p h
  | tight h => exact .p h
  | und => exact .und _
  | anyb b => exact .anyb b
  | p h => exact .p h
  | gr a b c => exact .gr a b c
  | ptr h => exact .ptr h
  | pin a b c => exact .pin a b c
  | rs a b c d => exact .rs a b c d
  | mp h => exact .mp h
  | it h => exact .it h
  | fn f a b c d e g => exact .fn f a b c d e g
  | ifc t h => exact .ifc t h
  | agg a b c d => exact .agg a b c d
  | tup a b c => exact .tup a b c
theorem VL.weak {G : Gh} {v : LV} {u : Value} (h : VL G v u) : VL G v.weak u := by
  cases v
  case agg cs =>
    cases h with
    | agg vs h1 h2 h3 =>
      refine .agg vs (by simp [h1]) h2 (fun i x hx => ?_)
      rw [List.getElem?_map] at hx
      cases hy : cs[i]? with
      | none => simp [hy] at hx
      | some y => simp [hy] at hx; subst hx; exact (h3 i y hy).weak1
  all_goals exact h.weak1
theorem wk_len (b : Bool) (args : List LV) : (wk b args).length = args.length := by cases b <;> simp [wk]
theorem ArgsR.wk {G : Gh} {args : List LV} {us : Array Value} (h : ArgsR G args us) (b : Bool) : ArgsR G (wk b args) us := by
  cases b
  · exact h
  · refine ⟨by rw [wk_len]; exact h.1, fun i v hv => ?_⟩
    simp only [LS.wk, List.getElem?_map] at hv
    cases hy : args[i]? with
    | none => simp [hy] at hv
    | some y => simp [hy] at hv; subst hv; exact (h.2 i y hy).weak
theorem callIso_plain {P : Program} {call : CallF} (hok : CallOK P call) {f : FuncId} {args : List LV} {st st' : List LObj} {res : LV} (hc : callIso call f args st = some (res, st')) : plainFn P f = true := by
  unfold callIso at hc
  simp only at hc
  split at hc
  case isFalse => cases hc
  split at hc
  case h_2 => cases hc
  rename_i r st1 hcall
  exact (hok _ _ _ _ _ hcall).1
theorem callIso_sound {P : Program} {call : CallF} (hok : CallOK P call) {f : FuncId} {args : List LV} {st st' : List LObj} {res : LV} (hc : callIso call f args st = some (res, st'))
    {G : Gh} {w : World} {us : Array Value} (h : WR G st w) (ha : ArgsR G args us) :
    Calls P f us w fun e w' => ∃ u, e = .returned u ∧ Good G st w res st' u w' := by
  unfold callIso at hc
  replace ha := ha.wk (call.weak f)
  simp only at hc
  generalize wk (call.weak f) args = args at hc ha
  generalize hids : reach st 100000 (args.flatMap LV.refs) [] = ids at hc
  split at hc
  case isFalse => cases hc
  rename_i hcond
  simp only [Bool.and_eq_true, decide_eq_true_eq, List.all_eq_true, List.contains_iff_mem] at hcond
  obtain ⟨⟨c1, c2⟩, hn⟩ := hcond
  split at hc
  case h_2 => cases hc
  rename_i r st1 hcall
  split at hc
  case isFalse => cases hc
  rename_i hk
  cases hc
  have hcl := closed_inv c1
  have hlt : ∀ o ∈ ids, o < st.length := fun o ho => (hcl o ho).1
  have hreal : ∀ o ∈ ids, Real G o := by
    rw [← hids]
    refine reach_real h _ _ _ ?_ (by simp)
    intro q hq
    obtain ⟨v, hv, hq⟩ := List.mem_flatMap.1 hq
    obtain ⟨i, hi⟩ := List.getElem?_of_mem hv
    exact (ha.2 i v hi).real q hq
  have hargs : ArgsR (G.pull ids) (args.map (LV.ren fun q => ids.idxOf q)) us := by
    refine ⟨by simp [ha.1], fun i x hi => ?_⟩
    rw [List.getElem?_map] at hi
    cases hq : args[i]? with
    | none => simp [hq] at hi
    | some v =>
      simp [hq] at hi; subst hi
      exact (ha.2 i v hq).pull fun q hqq => c2 q (by simp only [List.mem_flatMap]; exact ⟨v, List.mem_of_getElem? hq, hqq⟩)
  refine ((hok _ _ _ _ _ hcall).2 _ _ _ (h.pull c1 hn) hargs).mono fun e w' ⟨u, G1, he, hw1, hv1, hx1⟩ => ⟨u, he, ?_⟩
  generalize hb : back ids st.length = b
  have hG' : ∀ o, (G.push G1 ids st.length).loc o = match src ids st.length o with | some j => G1.loc j | none => G.loc o := fun o => rfl
  have hH' : ∀ o f, (G.push G1 ids st.length).hist o f = match src ids st.length o with | some j => G1.hist j f | none => G.hist o f := fun o f => rfl
  have hbk : ∀ j, src ids st.length (b j) = some j := fun j => by rw [← hb]; exact src_back hn hlt j
  have hren : ∀ {v : LV} {u : Value}, VL G1 v u → VL (G.push G1 ids st.length) (v.ren b) u := fun {v u} hv =>
    VL.ren (G := G1) (G' := G.push G1 ids st.length) (fun _ _ _ h => h) b hv (fun o _ l hl => by rw [hG', hbk]; exact hl) (fun o _ f s hs => by rw [hH', hbk]; exact hs)
  have hidx : ∀ {o : Nat}, o ∈ ids → ids[ids.idxOf o]? = some o := fun {o} ho => by rw [List.getElem?_eq_getElem (List.idxOf_lt_length_of_mem ho)]; simp
  have hle : G.le (G.push G1 ids st.length) := by
    refine ⟨hx1.le.F, fun o l hl => ?_, fun o f s hs => ?_⟩
    · rw [hG']
      split
      · rename_i j hj
        unfold src at hj
        split at hj
        · rename_i hm; cases hj; exact hx1.le.loc _ _ (by rw [(pull_at hm).1]; exact hl)
        · split at hj
          · cases hj
          · rw [(h.dom o (by omega)).1] at hl; cases hl
      · exact hl
    · rw [hH']
      split
      · rename_i j hj
        unfold src at hj
        split at hj
        · rename_i hm; cases hj; exact hx1.le.hist _ _ _ (by rw [(pull_at hm).2]; exact hs)
        · split at hj
          · cases hj
          · rw [(h.dom o (by omega)).2 f] at hs; cases hs
      · exact hs
  have hget : ∀ o, (putBack st ids ((st1.take ids.length).map (LObj.ren b)) ++ (st1.drop ids.length).map (LObj.ren b))[o]? = match src ids st.length o with | some j => (st1[j]?).map (LObj.ren b) | none => st[o]? :=
    fun o => by rw [← hb]; exact merged_get hn hlt hk o
  generalize hst' : putBack st ids ((st1.take ids.length).map (LObj.ren b)) ++ (st1.drop ids.length).map (LObj.ren b) = st' at hget
  have hlen' : st'.length = st.length + (st1.length - ids.length) := by rw [← hst']; simp [putBack_len]
  -- who owns what
  have hown : ∀ o c, Owns (G.push G1 ids st.length) st' o c → (∃ j, src ids st.length o = some j ∧ Owns G1 st1 j c) ∨ (src ids st.length o = none ∧ Owns G st o c) := by
    intro o c ho
    unfold Owns at ho
    rw [hget o] at ho
    simp only [hG', hH'] at ho
    cases hs : src ids st.length o with
    | none =>
      rw [hs] at ho
      exact .inr ⟨rfl, ho⟩
    | some j =>
      refine .inl ⟨j, rfl, ?_⟩
      rw [hs] at ho
      unfold Owns
      cases hq : st1[j]? with
      | none => simp [hq] at ho
      | some y => cases y <;> simp_all [LObj.ren]
  have hsub : ∀ j c, Owns (G.pull ids) (sub st ids) j c → ∃ o ∈ ids, Owns G st o c := fun j c hj => by
    obtain ⟨o, hi, ho⟩ := owns_pull c1 hj; exact ⟨o, List.mem_of_getElem? hi, ho⟩
  -- an object that the call did not meet
  have hfar : ∀ o c, src ids st.length o = none → Owns G st o c → c < w.heap.size ∧ ∀ j, ¬ Owns (G.pull ids) (sub st ids) j c := by
    intro o c hs ho
    refine ⟨h.owns_lt ho, fun j hj => ?_⟩
    obtain ⟨o', hm, ho'⟩ := hsub j c hj
    have := h.uniq o o' c ho ho'
    subst this
    unfold src at hs
    rw [if_pos hm] at hs
    cases hs
  have hheap : ∀ o c, src ids st.length o = none → Owns G st o c → w'.heap[c]? = w.heap[c]? := fun o c hs ho => let ⟨a, b⟩ := hfar o c hs ho; hx1.unch c a b
  have hcross : ∀ o c j, src ids st.length o = none → Owns G st o c → ¬ Owns G1 st1 j c := by
    intro o c j hs ho hj
    obtain ⟨a, b⟩ := hfar o c hs ho
    obtain ⟨j', hj'⟩ := hx1.own j c hj a
    exact b j' hj'
  have hwr : WR (G.push G1 ids st.length) st' w' := by
    refine ⟨hw1.fr, ?_, ?_, ?_, ?_, ?_, ?_, ?_, ?_⟩
    · intro o ho
      rw [hlen'] at ho
      have hs : src ids st.length o = some (ids.length + (o - st.length)) := by
        unfold src
        rw [if_neg (fun hm => by have := hlt o hm; omega), if_neg (by omega)]
      simp only [hG', hH', hs]
      exact hw1.dom _ (by omega)
    · intro o es ho l hl
      rw [hget o] at ho
      rw [hG'] at hl
      cases hs : src ids st.length o with
      | some j =>
        rw [hs] at ho hl
        simp only at ho hl
        cases hq : st1[j]? with
        | none => simp [hq] at ho
        | some y =>
          simp only [hq, Option.map_some, Option.some.injEq] at ho
          cases y <;> simp only [LObj.ren, reduceCtorEq, LObj.row.injEq] at ho
          subst ho
          obtain ⟨blk, size, n, e, arr, ty, hbb, r1, r2, r3⟩ := hw1.row j _ hq l hl
          exact ⟨blk, size, n, e, arr, ty, hbb, r1, by simpa using r2, r3.ren fun i j c _ u hv => hren hv⟩
      | none =>
        rw [hs] at ho hl
        simp only at ho hl
        obtain ⟨blk, size, n, e, arr, ty, hbb, r1, r2, r3⟩ := h.row o es ho l hl
        have how : Owns G st o blk := by unfold Owns; rw [ho]; exact ⟨size, n, e ▸ hl⟩
        exact ⟨blk, size, n, e, arr, ty, by rw [hheap o blk hs how]; exact hbb, r1, r2, r3.mono hle⟩
    · intro o kv ho l hl
      rw [hget o] at ho
      rw [hG'] at hl
      cases hs : src ids st.length o with
      | some j =>
        rw [hs] at ho hl
        simp only at ho hl
        cases hq : st1[j]? with
        | none => simp [hq] at ho
        | some y =>
          simp only [hq, Option.map_some, Option.some.injEq] at ho
          cases y <;> simp only [LObj.ren, reduceCtorEq, LObj.map.injEq] at ho
          subst ho
          obtain ⟨blk, e, es, c, hbb, r⟩ := hw1.map j _ hq l hl
          exact ⟨blk, e, es, c, hbb, r.1.ren (fun _ _ _ h => h) (fun i k c _ u hv => hren hv), r.2⟩
      | none =>
        rw [hs] at ho hl
        simp only at ho hl
        obtain ⟨blk, e, es, c, hbb, r⟩ := h.map o kv ho l hl
        have how : Owns G st o blk := by unfold Owns; rw [ho]; exact e ▸ hl
        exact ⟨blk, e, es, c, by rw [hheap o blk hs how]; exact hbb, ⟨r.1.mono hle, r.2⟩⟩
    · intro o s p ho l hl
      rw [hget o] at ho
      rw [hG'] at hl
      cases hs : src ids st.length o with
      | some j =>
        rw [hs] at ho hl
        simp only at ho hl
        cases hq : st1[j]? with
        | none => simp [hq] at ho
        | some y =>
          simp only [hq, Option.map_some, Option.some.injEq] at ho
          cases y <;> simp only [LObj.ren, reduceCtorEq, LObj.siter.injEq] at ho
          obtain ⟨rfl, rfl⟩ := ho
          exact hw1.iter j _ _ hq l hl
      | none =>
        rw [hs] at ho hl
        simp only at ho hl
        obtain ⟨blk, e, hbb⟩ := h.iter o s p ho l hl
        have how : Owns G st o blk := by unfold Owns; rw [ho]; exact e ▸ hl
        exact ⟨blk, e, by rw [hheap o blk hs how]; exact hbb⟩
    · intro o n hw ho
      rw [hget o] at ho
      simp only [hH']
      cases hs : src ids st.length o with
      | some j =>
        rw [hs] at ho
        simp only at ho ⊢
        cases hq : st1[j]? with
        | none => simp [hq] at ho
        | some y =>
          simp only [hq, Option.map_some, Option.some.injEq] at ho
          cases y <;> simp only [LObj.ren, reduceCtorEq, LObj.spare.injEq] at ho
          obtain ⟨rfl, rfl⟩ := ho
          exact hw1.spare j _ _ hq
      | none =>
        rw [hs] at ho
        simp only at ho ⊢
        obtain ⟨h1, h2⟩ := h.spare o n hw ho
        refine ⟨h1, fun s hs' => ?_⟩
        obtain ⟨a, ⟨arr, ty, hbb, hz⟩, hF⟩ := h2 s hs'
        have how : Owns G st o s.blk := by unfold Owns; rw [ho]; exact ⟨s, hs', rfl⟩
        refine ⟨a, ⟨arr, ty, by rw [hheap o _ hs how]; exact hbb, hz⟩, fun off hoff => ?_⟩
        cases hv : (G.push G1 ids st.length).F s.blk off with
        | none => rfl
        | some v =>
          obtain ⟨f1, f2⟩ := hfar o _ hs how
          have := hx1.newF s.blk off v hv f1 f2
          rw [show (G.pull ids).F s.blk off = G.F s.blk off from rfl, hF off hoff] at this
          cases this
    · intro o o' c h1 h2
      rcases hown o c h1 with ⟨j, hj, g1⟩ | ⟨hj, g1⟩ <;> rcases hown o' c h2 with ⟨j', hj', g2⟩ | ⟨hj', g2⟩
      · have := hw1.uniq j j' c g1 g2
        subst this
        rw [src_inj hn hlt hj, src_inj hn hlt hj']
      · exact (hcross o' c j hj' g2 g1).elim
      · exact (hcross o c j' hj g1 g2).elim
      · exact h.uniq o o' c g1 g2
    · intro o c h1 h2 off
      rcases hown o c h1 with ⟨j, hj, g1⟩ | ⟨hj, g1⟩
      · refine hw1.ownF j c g1 (fun ⟨n, k, e⟩ => h2 ⟨n, k, ?_⟩) off
        rw [hget o, hj]; simp [e, LObj.ren]
      · cases hv : (G.push G1 ids st.length).F c off with
        | none => rfl
        | some v =>
          obtain ⟨f1, f2⟩ := hfar o c hj g1
          have := hx1.newF c off v hv f1 f2
          rw [show (G.pull ids).F c off = G.F c off from rfl, h.ownF o c g1 (fun ⟨n, k, e⟩ => h2 ⟨n, k, by rw [hget o, hj]; exact e⟩) off] at this
          cases this
    · intro o x ho hx f
      rw [hget o] at ho
      simp only [hH']
      cases hs : src ids st.length o with
      | some j =>
        rw [hs] at ho
        simp only at ho ⊢
        cases hq : st1[j]? with
        | none => simp [hq] at ho
        | some y =>
          simp only [hq, Option.map_some, Option.some.injEq] at ho
          refine hw1.kind j y hq (fun n k e => ?_) f
          subst e
          exact hx n k ho.symm
      | none =>
        rw [hs] at ho
        exact h.kind o x ho hx f
  refine ⟨_, hwr, hren hv1, ⟨hle, hx1.os, hx1.tape, hx1.output, hx1.hsz, ?_, ?_, ?_, ?_, by rw [hlen']; omega⟩⟩
  · intro c hc ho
    exact hx1.unch c hc fun j hj => let ⟨o, _, h⟩ := hsub j c hj; ho o h
  · intro o c ho hc
    rcases hown o c ho with ⟨j, hj, g1⟩ | ⟨hj, g1⟩
    · obtain ⟨j', hj'⟩ := hx1.own j c g1 hc
      obtain ⟨o', _, ho'⟩ := hsub j' c hj'
      exact ⟨o', ho'⟩
    · exact ⟨o, g1⟩
  · intro c off v hv hc ho
    exact hx1.newF c off v hv hc fun j hj => let ⟨o, _, h⟩ := hsub j c hj; ho o h
  · intro o ho h1 h2
    have hm : o ∉ ids := fun hm => by
      rcases hreal o hm with r | ⟨f, r⟩
      · exact r h1
      · exact r (h2 f)
    have hs : src ids st.length o = none := by unfold src; rw [if_neg hm, if_pos ho]
    refine ⟨by rw [hget o, hs], by rw [hG', hs]; exact h1, fun f => by rw [hH', hs]; exact h2 f⟩
end Go.LS
