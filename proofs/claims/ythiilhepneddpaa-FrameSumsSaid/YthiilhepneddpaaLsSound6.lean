/- Append; the bytes of a string; literals; make. -/
import Derived.Test.YthiilhepneddpaaLsSound5
set_option linter.unusedVariables false
set_option linter.unusedSimpArgs false
namespace Go.LS
section ops
variable {P : Program} {G : Gh} {st st' : List LObj} {w : World} {t : List LV} {a : Act} {o : Oper} {v : LV}

/-- Cells that stand for elements. -/
def PCells (F : Nat → Nat → Option Value) (xs : List (List PV)) (size : Nat) (news : List Value) : Prop :=
  news.length = xs.length * size ∧ ∀ i j p, at2 xs i j = some p → ∃ y, news[i * size + j]? = some y ∧ VP F p y

theorem split_at {k m size : Nat} (h : k < m * size) : ∃ i j, i < m ∧ j < size ∧ k = i * size + j := by
  have hs : 0 < size := by rcases Nat.eq_zero_or_pos size with rfl | h'; · simp at h
                           · exact h'
  refine ⟨k / size, k % size, ?_, Nat.mod_lt _ hs, ?_⟩
  · exact (Nat.div_lt_iff_lt_mul hs).2 h
  · have := Nat.div_add_mod k size; rw [Nat.mul_comm] at this; exact this.symm

theorem PCells.one {F : Nat → Nat → Option Value} {xs : List (List PV)} {size : Nat} {news : List Value} (h : PCells F xs size news) (hs : ∀ e ∈ xs, e.length = size) : ∀ y ∈ news, y.oneCell' = true := by
  intro y hy
  obtain ⟨k, hk⟩ := List.getElem?_of_mem hy
  have hlt := (List.getElem?_eq_some_iff.1 hk).1
  rw [h.1] at hlt
  obtain ⟨i, j, h1, h2, rfl⟩ := split_at hlt
  have hl := hs xs[i] (List.getElem_mem _)
  obtain ⟨y', a1, a2⟩ := h.2 i j (xs[i][j]'(by omega)) (by simp [at2, h1])
  rw [hk] at a1; cases a1
  exact a2.one

theorem sized_iff {n : Nat} {es : List (List PV)} (h : sized n es = true) : ∀ e ∈ es, e.length = n := by
  intro e he
  have := List.all_eq_true.1 h e he
  simpa using this

theorem toPVs_len : ∀ {l : List LV} {q : List PV}, toPVs l = some q → q.length = l.length
  | [], q, h => by simp only [toPVs] at h; cases h; rfl
  | x :: r, q, h => by
    simp only [toPVs] at h
    split at h
    · rename_i p l _ hl; cases h; simp [toPVs_len hl]
    · cases h

theorem rowPV_get : ∀ {es : List (List LV)} {qs : List (List PV)}, rowPV es = some qs → qs.length = es.length ∧ ∀ i j p, at2 qs i j = some p → ∃ x, at2 es i j = some x ∧ x.toPV = some p
  | [], qs, h => by simp only [rowPV] at h; cases h; exact ⟨rfl, fun i j p h => by simp [at2] at h⟩
  | e :: r, qs, h => by
    simp only [rowPV] at h
    split at h
    · rename_i q l hq hl
      cases h
      obtain ⟨h1, h2⟩ := rowPV_get hl
      refine ⟨by simp [h1], fun i j p hp => ?_⟩
      cases i with
      | zero =>
        simp only [at2, List.getElem?_cons_zero, Option.bind_some] at hp ⊢
        clear h1 h2 hl
        induction e generalizing q j with
        | nil => simp only [toPVs] at hq; cases hq; simp at hp
        | cons x e ih =>
          simp only [toPVs] at hq
          split at hq
          · rename_i p' l' hx hl'
            cases hq
            cases j with
            | zero => simp at hp; subst hp; exact ⟨x, rfl, hx⟩
            | succ j => simp at hp; simpa using ih _ hl' j hp
          · cases hq
      | succ i => simp only [at2, List.getElem?_cons_succ] at hp ⊢; exact h2 i j p hp
    · cases h

theorem VP.str_inv {F : Nat → Nat → Option Value} {s : List UInt8} {u : Value} (h : VP F (.str s) u) : u = .string ⟨s.toArray⟩ := by cases h; rfl

/-- What is appended, as the machine reads it. -/
theorem appended_sound (h : WR G st w) {str : Bool} {x : LV} {xs : List (List PV)} {size : Nat} (hx : appended str st x = some xs) (hs : ∀ e ∈ xs, e.length = size) {u : Value} (hu : VL G x u)
    (hstr : str = true → size = 1) : ∃ news, PCells G.F xs size news ∧ (Builtin.lenOf u).run P w = .ok xs.length w ∧
      ∀ w', w'.heap = w.heap → (Builtin.firstCells size xs.length u).run P w' = .ok news.toArray w' := by
  have vcase : ∀ es : List (List PV), es = xs → VP G.F (.sl es) u → ∃ news, PCells G.F xs size news ∧ (Builtin.lenOf u).run P w = .ok xs.length w ∧
      ∀ w', w'.heap = w.heap → (Builtin.firstCells size xs.length u).run P w' = .ok news.toArray w' := by
    rintro es rfl hv
    rcases hv.slice with ⟨rfl, rfl⟩ | ⟨size', b, off, cap, rfl, _⟩ | ⟨rfl, ad, cap, rfl, _⟩
    · refine ⟨[], ⟨by simp, fun i j p h => by simp [at2] at h⟩, by simp [Builtin.lenOf], fun w' _ => by simp [Builtin.firstCells]⟩
    · obtain ⟨_, h1, h2, hg⟩ := hv.get hs
      refine ⟨(List.range (es.length * size)).map fun k => (G.F b (off + k)).getD undef, ⟨by simp, fun i j p hp => ?_⟩, by simp [Builtin.lenOf], fun w' hw' => ?_⟩
      · obtain ⟨y, hy, hvp⟩ := hg i j p hp
        have := at2_lt hs hp
        have hlt : i * size + j < es.length * size := by
          have : (i + 1) * size ≤ es.length * size := Nat.mul_le_mul_right _ (by omega)
          rw [Nat.add_mul] at this; omega
        refine ⟨y, ?_, hvp⟩
        rw [List.getElem?_map, List.getElem?_range hlt]
        simp only [Option.map_some]
        rw [← Nat.add_assoc, hy]; rfl
      · refine run_firstCells_some (P := P) w' size es.length ⟨b, off, none⟩ _ cap _ (by simp) (fun k y hk => ?_)
        rw [List.getElem?_map] at hk
        by_cases hlt : k < es.length * size
        · rw [List.getElem?_range hlt] at hk
          simp only [Option.map_some, Option.some.injEq] at hk
          subst hk
          obtain ⟨i, j, hi, hj, rfl⟩ := split_at hlt
          have hl := hs es[i] (List.getElem_mem _)
          obtain ⟨y, hy, _⟩ := hg i j (es[i][j]'(by omega)) (by simp [at2, hi])
          have hc := h.fr _ _ _ hy
          rw [Addr.add_lit, ← Nat.add_assoc, hy]
          unfold World.cell? at hc ⊢
          rw [hw']
          exact hc
        · rw [List.getElem?_eq_none (by simpa using hlt)] at hk; cases hk
    · exact ⟨[], ⟨by simp, fun i j p h => by simp [at2] at h⟩, by simp [Builtin.lenOf], fun w' _ => run_firstCells_some (P := P) w' size 0 ad 0 cap [] (by simp) (fun k y hk => by simp at hk)⟩
  unfold appended at hx
  split at hx
  · rename_i s
    split at hx
    case isFalse => cases hx
    rename_i hstr'
    cases hx
    have := hstr hstr'
    subst this
    have hus := hu.str_inv
    subst hus
    refine ⟨s.map fun b => .int .u8 b.toNat, ⟨by simp [bs], fun i j p hp => ?_⟩, by simp [Builtin.lenOf, bs], fun w' _ => ?_⟩
    · have := at2_lt hs hp
      simp only [at2, bs, List.getElem?_map] at hp
      cases hq : s[i]? with
      | none => simp [hq] at hp
      | some b =>
        obtain rfl : j = 0 := by omega
        simp [hq] at hp; subst hp
        exact ⟨_, by simp [hq], .int _ _⟩
    · have : (⟨s.toArray⟩ : ByteArray).extract 0 s.length = ⟨s.toArray⟩ := by
        apply ByteArray.ext
        apply Array.ext'
        simp
      simp [Builtin.firstCells, bs, this]
  · rename_i q off len
    split at hx
    · rename_i es hes
      split at hx
      · rename_i hle
        obtain ⟨blk, size', n, cap, hloc, rfl, hm, hlc, hn⟩ := hu.rs_inv
        obtain ⟨blk', size'', n', e5, arr, ty, hb, hz, hmm, hr⟩ := h.row q es hes _ hloc
        cases e5
        obtain ⟨g1, g2⟩ := rowPV_get hx
        have hlen : xs.length = len := by rw [g1]; simp; omega
        -- the cells' size
        have hse : xs ≠ [] → size' = size := by
          intro hne
          obtain ⟨e, r, rfl⟩ := List.exists_cons_of_ne_nil hne
          have h1 := hs e (by simp)
          have : ((es.drop off).take len)[0]?.isSome = true := by
            have : 0 < ((es.drop off).take len).length := by rw [← g1]; simp
            simp [this]
            simpa using this
          obtain ⟨e', he'⟩ := Option.isSome_iff_exists.1 this
          have hm' := List.mem_of_mem_drop (List.mem_of_mem_take (List.mem_of_getElem? he'))
          have hl := hr.1 e' hm'
          rw [← hl, ← h1]
          -- e' and e have one length
          have : toPVs e' = some e := by
            cases hd : (es.drop off).take len with
            | nil => rw [hd] at he'; simp at he'
            | cons z zs =>
              rw [hd] at he' hx
              simp at he'; subst he'
              simp only [rowPV] at hx
              split at hx
              · rename_i q' l' hq' hl'; cases hx; exact hq'
              · cases hx
          exact (toPVs_len this).symm
        refine ⟨(arr.toList.drop (off * size)).take (len * size), ⟨?_, fun i j p hp => ?_⟩, by simp [Builtin.lenOf, hlen], fun w' hw' => ?_⟩
        · by_cases hne : xs = []
          · subst hne; simp at hlen; subst hlen; simp
          · have := hse hne; subst this
            have : (off + len) * size' ≤ n * size' := Nat.mul_le_mul_right _ (by omega)
            rw [Nat.add_mul] at this
            rw [hlen]
            simp only [List.length_take, List.length_drop, Array.length_toList]; omega
        · have hne : xs ≠ [] := by rintro rfl; simp [at2] at hp
          have := hse hne; subst this
          obtain ⟨x, hx1, hx2⟩ := g2 i j p hp
          have hlt := at2_lt hs hp
          have hx1' : at2 es (off + i) j = some x := by
            unfold at2 at hx1 ⊢
            rw [List.getElem?_take] at hx1
            split at hx1
            · rwa [List.getElem?_drop] at hx1
            · simp at hx1
          obtain ⟨y, a1, a2, _⟩ := hr.2 _ _ _ hx1'
          refine ⟨y, ?_, toPV_sound hx2 a2⟩
          have hlt2 : i * size' + j < len * size' := by
            have : (i + 1) * size' ≤ len * size' := Nat.mul_le_mul_right _ (by omega)
            rw [Nat.add_mul] at this; omega
          rw [List.getElem?_take, if_pos hlt2, List.getElem?_drop]
          simp only [Array.getElem?_toList]
          rw [← a1]; congr 1; rw [Nat.add_mul]; omega
        · rw [hlen]
          by_cases hne : xs = []
          · subst hne; simp at hlen; subst hlen
            simp [Builtin.firstCells, loadCells, loadCellsFrom]
          · have := hse hne; subst this
            have hb1 : (off + len) * size' ≤ n * size' := Nat.mul_le_mul_right _ (by omega)
            rw [Nat.add_mul] at hb1
            refine run_firstCells_some (P := P) w' size' len ⟨blk, off * size', none⟩ _ cap _ (by simp only [List.length_take, List.length_drop, Array.length_toList]; omega) (fun k y hk => ?_)
            rw [List.getElem?_take] at hk
            split at hk
            · rw [List.getElem?_drop] at hk
              simp only [Array.getElem?_toList] at hk
              rw [Addr.add_lit]
              unfold World.cell?
              rw [hw', hb]
              simpa using hk
            · cases hk
      · cases hx
    · cases hx
  · exact vcase xs rfl (asSl_sound hx hu)

theorem size_zeros (z : Array Value) (n : Nat) : (Builtin.zeroCells z n).size = n * z.size := by simp [Builtin.zeroCells]

/-- An append that grows. -/
theorem run_grow {ty u e rt : TypeId} {d : TypeDesc} (ht : P.underlying ty = some (.slice e)) (hd : P.underlying u = some d) (hdi : ∀ k, d ≠ .int k) {i : TypeInfo} (hi : P.info? e = some i) {z : Value} (hz : i.zero = some z)
    {base : Option Addr} {sLen sCap : Nat} {x : Value} {n : Nat} {olds news : List Value}
    (hlo : (Builtin.firstCells i.size sLen (.slice base sLen sCap)).run P w.drew = .ok olds.toArray w.drew) (hln : (Builtin.lenOf x).run P w = .ok n w) (hnew : (Builtin.firstCells i.size n x).run P w.drew = .ok news.toArray w.drew)
    (hg : sCap < sLen + n) (h63 : sLen + n ≤ maxLen) (hb : (sLen + n) * i.bytes ≤ 140737488355328) :
    (Builtin.append_ #[ty, u] rt #[.slice base sLen sCap, x]).run P w = .ok (.slice (some ⟨w.heap.size, 0, none⟩) (sLen + n) (grownCap w (sLen + n) sCap e))
      (w.drew.alloc (.cells (olds.toArray ++ news.toArray ++ Builtin.zeroCells z.cells (grownCap w (sLen + n) sCap e - (sLen + n))) e)) := by
  have hn : ¬ (sLen + n ≤ sCap) := by omega
  have h63' : ¬ (9223372036854775807 < ((sLen : Int) + (n : Int))) := by simp only [maxLen] at h63; omega
  have hfit := growslice_fits hg hb
  have h48' : ¬ (281474976710656 < Builtin.nextslicecap (sLen + n) sCap * i.bytes) := by omega
  have hu : (underlying u).run P w = .ok d w := run_underlying hd w
  have hzf : (d matches .int _) = false := by cases d <;> first | rfl | exact absurd rfl (hdi _)
  have hz' : (zeroValue e).run P w.drew = .ok z w.drew := run_zeroValue hi hz _
  have hzf2 : ∀ k, ¬ (d = .int k) := fun k => hdi k
  simp [Builtin.append_, run_underlying ht, hu, sizeOf, typeInfo, zeroValue, hi, hz, hln, hn, h63', h48', Question.forced, hlo, hnew, newRow, grownCap]
  congr 2
  rw [← Array.append_assoc]
  simp

/-- An append that has room. -/
theorem run_room {ty u e rt : TypeId} {d : TypeDesc} (ht : P.underlying ty = some (.slice e)) (hd : P.underlying u = some d) (hdi : ∀ k, d ≠ .int k) {i : TypeInfo} (hi : P.info? e = some i)
    {b off sLen sCap : Nat} {x : Value} {n : Nat} {news : List Value} {cur : Array Value} {ety : TypeId} (hb : w.heap[b]? = some (.cells cur ety (0, 0)))
    (hln : (Builtin.lenOf x).run P w = .ok n w) (hnew : (Builtin.firstCells i.size n x).run P w = .ok news.toArray w) (h1 : ∀ y ∈ news, y.oneCell' = true)
    (hroom : sLen + n ≤ sCap) (hfit : off + sLen * i.size + news.length ≤ cur.size) :
    (Builtin.append_ #[ty, u] rt #[.slice (some ⟨b, off, none⟩) sLen sCap, x]).run P w = .ok (.slice (some ⟨b, off, none⟩) (sLen + n) sCap)
      (w.setRow b (cur.toList.take (off + sLen * i.size) ++ news ++ cur.toList.drop (off + sLen * i.size + news.length)).toArray) := by
  have hst := run_storeCells_at P b (off + sLen * i.size) ety news 0 cur w hb (by simpa using hfit) h1
  simp only [Nat.add_zero] at hst
  have hu : (underlying u).run P w = .ok d w := run_underlying hd w
  have hzf2 : ∀ k, ¬ (d = .int k) := fun k => hdi k
  simp [Builtin.append_, run_underlying ht, hu, sizeOf, typeInfo, hi, hln, hroom, hnew, Addr.add_lit, hst]

/-- Nothing is appended. -/
theorem run_appendNone {ty u e rt : TypeId} {d : TypeDesc} (ht : P.underlying ty = some (.slice e)) (hd : P.underlying u = some d) (hdi : ∀ k, d ≠ .int k) {i : TypeInfo} (hi : P.info? e = some i)
    {base : Option Addr} {sLen sCap : Nat} {x : Value} (hle : sLen ≤ sCap)
    (hln : (Builtin.lenOf x).run P w = .ok 0 w) (hnew : (Builtin.firstCells i.size 0 x).run P w = .ok #[] w) :
    (Builtin.append_ #[ty, u] rt #[.slice base sLen sCap, x]).run P w = .ok (.slice base sLen sCap) w := by
  have hu : (underlying u).run P w = .ok d w := run_underlying hd w
  have hzf2 : ∀ k, ¬ (d = .int k) := fun k => hdi k
  cases base <;> simp [Builtin.append_, run_underlying ht, hu, sizeOf, typeInfo, hi, hln, hle, hnew, storeCells]

theorem vp_append {F F' : Nat → Nat → Option Value} (hF : ∀ b o v, F b o = some v → F' b o = some v) {es xs : List (List PV)} {size b off cap : Nat} (h1 : es.length + xs.length ≤ cap) (h2 : cap ≤ maxLen)
    (hes : ∀ e ∈ es, e.length = size) (hxs : ∀ e ∈ xs, e.length = size)
    (he : ∀ i j p, at2 es i j = some p → ∃ y, F' b (off + i * size + j) = some y ∧ VP F p y)
    (hx : ∀ i j p, at2 xs i j = some p → ∃ y, F' b (off + (es.length + i) * size + j) = some y ∧ VP F p y) :
    VP F' (.sl (es ++ xs)) (.slice (some ⟨b, off, none⟩) (es ++ xs).length cap) := by
  refine VP.mk (es := es ++ xs) (size := size) (by simpa using h1) h2 (fun e he' => (List.mem_append.1 he').elim (hes e) (hxs e)) ?_
  intro i j p hp
  rcases at2_append hp with ⟨_, h⟩ | ⟨hi, h⟩
  · obtain ⟨y, a, b⟩ := he i j p h; exact ⟨y, a, b.mono hF⟩
  · obtain ⟨y, a, b⟩ := hx _ j p h
    refine ⟨y, ?_, b.mono hF⟩
    rw [show es.length + (i - es.length) = i from by omega] at a
    exact a

/-- The elements that a slice held, as the machine reads them. -/
theorem olds_sound (h : WR G st w) {es : List (List PV)} {size : Nat} (hs : ∀ e ∈ es, e.length = size) {base : Option Addr} {n cap : Nat} (hv : VP G.F (.sl es) (.slice base n cap)) :
    n = es.length ∧ ∃ olds, PCells G.F es size olds ∧ ∀ w', w'.heap = w.heap → (Builtin.firstCells size n (.slice base n cap)).run P w' = .ok olds.toArray w' := by
  have hn : n = es.length := by
    rcases hv.slice with ⟨rfl, hu⟩ | ⟨_, _, _, _, hu, _⟩ | ⟨rfl, _, _, hu, _⟩ <;> cases hu <;> rfl
  obtain ⟨olds, h1, h2, h3⟩ := appended_sound (P := P) h (str := false) (x := .p (.sl es)) (xs := es) (size := size) rfl hs (.p hv) (by intro e; cases e)
  exact ⟨hn, olds, h1, by rw [hn]; simpa [hn] using h3⟩

theorem VL.len {G : Gh} {v : LV} {b : Option Addr} {n m cap : Nat} (e : n = m) (h : VL G v (.slice b n cap)) : VL G v (.slice b m cap) := e ▸ h

theorem op_append {s x : Operand} {ty u e : TypeId} {d : TypeDesc} (ho : o.op = .call { callee := .builtin .append, args := #[s, x], argTypes := #[ty, u] })
    (ht : P.underlying ty = some (.slice e)) (hd : P.underlying u = some d) (hdi : ∀ k, d ≠ .int k) {i : TypeInfo} (hi : P.info? e = some i) {z : Value} (hz : i.zero = some z) (hzs : z.cells.size = i.size)
    (hstr : (∃ e', d = .slice e') ∨ (d = .string ∧ i.size = 1)) {s' x' : LX} (hs' : compX s = some s') (hx' : compX x = some x')
    {str : Bool} (hr : lappend str i.size i.bytes st (s'.ev t) (x'.ev t) = some (v, st')) (hstr2 : str = true → i.size = 1)
    (h : WR G st w) (hx : XsR G t a o.op) : OpTo P o a w (Good G st w v st') := by
  have hs1 := hx s (by rw [ho]; simp [Op.operands, Call.operands]) s' hs'
  have hx1 := hx x (by rw [ho]; simp [Op.operands, Call.operands]) x' hx'
  have key : ∀ (r : Value) (w' : World), (Builtin.append_ #[ty, u] o.type #[a.eval s, a.eval x]).run P w = .ok r w' → (execOp a.eval o).run P w = .ok (.value r) w' := by
    intro r w' hrun
    simp [execOp, ho, resolve, invoke, builtin, hrun]
  unfold lappend at hr
  split at hr
  · cases hr
  rename_i xs hap
  split at hr
  · cases hr
  rename_i hsz
  have hxs := sized_iff (n := i.size) (es := xs) (by simpa using hsz)
  obtain ⟨news, hn1, hn2, hn3⟩ := appended_sound (P := P) h hap hxs hx1 hstr2
  have hone := hn1.one hxs
  split at hr
  · -- a slice without room
    rename_i es heq
    rw [heq] at hs1
    obtain ⟨ad, hu, hvp⟩ := hs1.tight_inv
    rw [hu] at hvp hs1
    split at hr
    · rename_i hemp
      have : xs = [] := by simpa using hemp
      subst this
      have hnn : news = [] := List.eq_nil_of_length_eq_zero (by simpa using hn1.1)
      subst hnn
      cases hr
      refine opTo_value (key _ w ?_) (.same h (by rw [heq]; exact hs1))
      rw [hu]
      exact run_appendNone ht hd hdi hi (Nat.le_refl _) hn2 (hn3 w rfl)
    · rename_i hemp
      split at hr
      · rename_i hc
        obtain ⟨c1, c2, c3, c4⟩ := hc
        cases hr
        have hes := sized_iff c1
        obtain ⟨_, olds, ho1, ho2⟩ := olds_sound (P := P) h hes hvp
        have hpos : 0 < xs.length := by rcases xs with _ | _; · simp at hemp
                                        · simp
        have hrun := run_grow (P := P) (w := w) (rt := o.type) ht hd hdi hi hz (ho2 w.drew rfl) hn2 (hn3 w.drew rfl) (by omega) c3 c2
        generalize hcap : grownCap w (es.length + xs.length) es.length e = cap at hrun
        have hge : es.length + xs.length ≤ cap := by rw [← hcap]; exact grownCap_ge ..
        have hle : cap ≤ maxLen := by rw [← hcap]; exact grownCap_le_maxLen _ _ _ _ c3
        generalize harr : olds.toArray ++ news.toArray ++ Builtin.zeroCells z.cells (cap - (es.length + xs.length)) = arr at hrun
        have hasz : arr.size = (es.length + xs.length) * i.size + (cap - (es.length + xs.length)) * i.size := by
          rw [← harr]; simp only [Array.size_append, List.size_toArray, ho1.1, hn1.1, size_zeros, hzs, Nat.add_mul]
        have hw : WR G st w.drew := h.of_heap rfl
        obtain ⟨r1, r2⟩ := hw.newSpare arr e i.size ((es.length + xs.length) * i.size) (cap - (es.length + xs.length)) (es.length + xs.length) hasz
        refine opTo_value (key _ _ (by rw [hu]; exact hrun)) ⟨_, r1, ?_, (Ext.of_heap (w := w) (w' := w.drew) rfl rfl rfl rfl).trans r2⟩
        have hFn : ∀ k y, k < (es.length + xs.length) * i.size → arr[k]? = some y →
            ((G.addF w.drew.heap.size fun o => if o < (es.length + xs.length) * i.size then arr[o]? else none).addHist st.length (es.length + xs.length) ⟨w.drew.heap.size, (es.length + xs.length) * i.size, cap - (es.length + xs.length), i.size⟩).F w.heap.size k = some y := by
          intro k y hk hy
          simp only [Gh.addHist, Gh.addF]
          cases hg : G.F w.heap.size k with
          | some v => have := h.fr_lt hg; omega
          | none => simp [hk, hy]
        have hbd : ∀ i' j, i' < es.length + xs.length → j < i.size → i' * i.size + j < (es.length + xs.length) * i.size := by
          intro i' j h1 h2
          have : (i' + 1) * i.size ≤ (es.length + xs.length) * i.size := Nat.mul_le_mul_right _ (by omega)
          rw [Nat.add_mul] at this; omega
        have hvn := vp_append (F := G.F) (F' := ((G.addF w.drew.heap.size fun o => if o < (es.length + xs.length) * i.size then arr[o]? else none).addHist st.length (es.length + xs.length) ⟨w.drew.heap.size, (es.length + xs.length) * i.size, cap - (es.length + xs.length), i.size⟩).F)
          (fun b o v hv => by simp [Gh.addHist, Gh.addF, hv]) (es := es) (xs := xs) (size := i.size) (b := w.heap.size) (off := 0) (cap := cap) (by omega) hle hes hxs
          (fun i' j p hp => by
            obtain ⟨y, a1, a2⟩ := ho1.2 i' j p hp
            have hb := at2_lt hes hp
            refine ⟨y, hFn _ y (by simpa using hbd i' j (by omega) hb.2) ?_, a2⟩
            rw [← harr, Nat.zero_add]
            have := (List.getElem?_eq_some_iff.1 a1).1
            rw [Array.append_assoc, Array.getElem?_append_left (by simpa using this)]
            simpa using a1)
          (fun i' j p hp => by
            obtain ⟨y, a1, a2⟩ := hn1.2 i' j p hp
            have hb := at2_lt hxs hp
            refine ⟨y, hFn _ y (by simpa using hbd (es.length + i') j (by omega) hb.2) ?_, a2⟩
            rw [← harr, Nat.zero_add, Nat.add_mul]
            have := (List.getElem?_eq_some_iff.1 a1).1
            rw [Array.append_assoc, Array.getElem?_append_right (by simp [ho1.1]; omega), Array.getElem?_append_left (by simp [ho1.1]; omega)]
            simp only [List.size_toArray, ho1.1, List.getElem?_toArray]
            rw [← a1]; congr 1; omega)
        refine VL.len (List.length_append (as := es) (bs := xs)) ?_
        refine .sl (size := i.size) hvn (by simpa using hge) (fun e he => (List.mem_append.1 he).elim (hes e) (hxs e)) ?_
        simp [Gh.addHist]
      · cases hr
  · -- a slice that owns the room behind it
    rename_i es tg fin heq
    rw [heq] at hs1
    obtain ⟨size, b, off, cap, hu, hvp, hcap, hes, hh⟩ := hs1.sl_inv
    split at hr
    · rename_i n hw hst
      split at hr
      · rename_i hemp
        have : xs = [] := by simpa using hemp
        subst this
        have hnn : news = [] := List.eq_nil_of_length_eq_zero (by simpa using hn1.1)
        subst hnn
        cases hr
        refine opTo_value (key _ w ?_) (.same h (by rw [heq]; exact hu ▸ hs1))
        rw [hu]
        exact run_appendNone ht hd hdi hi hcap hn2 (hn3 w rfl)
      · rename_i hemp
        split at hr
        · rename_i hc
          obtain ⟨rfl, rfl, c2, c3, c4⟩ := hc
          cases hr
          obtain ⟨_, hsp⟩ := h.spare tg _ hw hst
          obtain ⟨hss, ⟨arr, ety, hbb, hbz⟩, hFs⟩ := hsp _ hh
          simp only at hss hbb hbz hFs
          subst hss
          have hpos : 0 < xs.length := by rcases xs with _ | _; · simp at hemp
                                          · simp
          rw [hu] at hvp
          obtain ⟨_, _, hcm, hget⟩ := hvp.get hes
          by_cases hroom : es.length + xs.length ≤ cap
          · -- in its place
            have hfit : off + es.length * i.size + news.length ≤ arr.size := by
              rw [hbz, hn1.1]
              have : xs.length * i.size ≤ (cap - es.length) * i.size := Nat.mul_le_mul_right _ (by omega)
              omega
            have hrun := run_room (P := P) (w := w) (rt := o.type) ht hd hdi hi hbb hn2 (hn3 w rfl) hone hroom hfit
            generalize hcur : (arr.toList.take (off + es.length * i.size) ++ news ++ arr.toList.drop (off + es.length * i.size + news.length)) = cur at hrun
            have hg : ∀ j, cur[j]? = if off + es.length * i.size ≤ j ∧ j < off + es.length * i.size + news.length then news[j - (off + es.length * i.size)]? else arr.toList[j]? := fun j => by
              rw [← hcur]; exact take_drop_get arr.toList news _ j (by simpa using hfit)
            have hcl : cur.length = arr.size := by rw [← hcur]; simp only [List.length_append, List.length_take, List.length_drop, Array.length_toList]; omega
            have hG := h.grow hst ⟨b, off + es.length * i.size, cap - es.length, i.size⟩ ⟨b, off + es.length * i.size + xs.length * i.size, cap - es.length - xs.length, i.size⟩ hh hpos cur.toArray ety
              (fun k => if off + es.length * i.size ≤ k ∧ k < off + es.length * i.size + news.length then cur[k]? else none)
              (w' := w.setRow b cur.toArray) rfl rfl rfl (by simp [World.setRow]) (fun c _ hc => setRow_other w b c _ hc) (setRow_heap w b arr _ ety _ hbb) rfl
              (by simp only [List.size_toArray, hcl, hbz]
                  have : (cap - es.length) * i.size = xs.length * i.size + (cap - es.length - xs.length) * i.size := by rw [← Nat.add_mul]; congr 1; omega
                  omega)
              (fun k y hk => by
                split at hk
                · rename_i hb; exact ⟨by have := hn1.1; show k < off + es.length * i.size + xs.length * i.size; omega, by simpa using hk⟩
                · cases hk)
              (.inl ⟨rfl, by show off + es.length * i.size ≤ off + es.length * i.size + xs.length * i.size; omega, fun k y hk hy => by
                rw [cell_of_row w b k arr ety (0, 0) hbb] at hy
                simp only [List.getElem?_toArray]
                rw [hg, if_neg (by simp only at hk; omega)]
                simpa using hy⟩)
            refine opTo_value (key _ _ (by rw [hu]; exact hrun)) ⟨_, hG.1, ?_, hG.2⟩
            have hFle : ∀ b' o' v', G.F b' o' = some v' → (G.addF b fun k => if off + es.length * i.size ≤ k ∧ k < off + es.length * i.size + news.length then cur[k]? else none).F b' o' = some v' :=
              fun b' o' v' hv => by simp [Gh.addF, hv]
            have hvn := vp_append (F := G.F) (F' := (G.addF b fun k => if off + es.length * i.size ≤ k ∧ k < off + es.length * i.size + news.length then cur[k]? else none).F)
              hFle (es := es) (xs := xs) (size := i.size) (b := b) (off := off) (cap := cap) hroom hcm hes hxs
              (fun i' j p hp => let ⟨y, a1, a2⟩ := hget i' j p hp; ⟨y, hFle _ _ _ a1, a2⟩)
              (fun i' j p hp => by
                obtain ⟨y, a1, a2⟩ := hn1.2 i' j p hp
                have hb := at2_lt hxs hp
                have hlt := (List.getElem?_eq_some_iff.1 a1).1
                refine ⟨y, ?_, a2⟩
                have e1 : off + (es.length + i') * i.size + j = off + es.length * i.size + (i' * i.size + j) := by rw [Nat.add_mul]; omega
                rw [e1]
                simp only [Gh.addF]
                rw [hFs _ (by omega)]
                simp only [if_true]
                rw [if_pos ⟨by omega, by omega⟩, hg, if_pos ⟨by omega, by omega⟩, ← a1]
                congr 1; omega)
            refine VL.len (List.length_append (as := es) (bs := xs)) ?_
            refine .sl (size := i.size) hvn (by simpa using hroom) (fun e he => (List.mem_append.1 he).elim (hes e) (hxs e)) ?_
            simp only [Gh.addHist, true_and, if_true, and_self, List.length_append, Nat.add_mul, Option.some.injEq, Sp.mk.injEq, and_true]
            omega
          · -- in a new array
            obtain ⟨_, olds, ho1, ho2⟩ := olds_sound (P := P) h hes hvp
            have hrun := run_grow (P := P) (w := w) (rt := o.type) ht hd hdi hi hz (ho2 w.drew rfl) hn2 (hn3 w.drew rfl) (by omega) c3 c2
            generalize hcap' : grownCap w (es.length + xs.length) cap e = cap' at hrun
            have hge : es.length + xs.length ≤ cap' := by rw [← hcap']; exact grownCap_ge ..
            have hle : cap' ≤ maxLen := by rw [← hcap']; exact grownCap_le_maxLen _ _ _ _ c3
            generalize harr : olds.toArray ++ news.toArray ++ Builtin.zeroCells z.cells (cap' - (es.length + xs.length)) = arr' at hrun
            have hasz : arr'.size = (es.length + xs.length) * i.size + (cap' - (es.length + xs.length)) * i.size := by
              rw [← harr]; simp only [Array.size_append, List.size_toArray, ho1.1, hn1.1, size_zeros, hzs, Nat.add_mul]
            have hG := h.grow hst ⟨b, off + es.length * i.size, cap - es.length, i.size⟩ ⟨w.heap.size, (es.length + xs.length) * i.size, cap' - (es.length + xs.length), i.size⟩ hh hpos arr' e
              (fun k => if k < (es.length + xs.length) * i.size then arr'[k]? else none)
              (w' := w.drew.alloc (.cells arr' e)) rfl rfl rfl (by simp) (fun c hc _ => heap_old (w := w.drew) hc) (heap_alloc_new w.drew _) rfl hasz
              (fun k y hk => by
                split at hk
                · exact ⟨‹_›, hk⟩
                · cases hk)
              (.inr ⟨Nat.le_refl _, heap_old (w := w.drew) (lt_of_heap hbb)⟩)
            refine opTo_value (key _ _ (by rw [hu]; exact hrun)) ⟨_, hG.1, ?_, hG.2⟩
            have hFn : ∀ k y, k < (es.length + xs.length) * i.size → arr'[k]? = some y →
                (G.addF w.heap.size fun k => if k < (es.length + xs.length) * i.size then arr'[k]? else none).F w.heap.size k = some y := by
              intro k y hk hy
              simp only [Gh.addF]
              cases hg : G.F w.heap.size k with
              | some v => have := h.fr_lt hg; omega
              | none => simp [hk, hy]
            have hbd : ∀ i' j, i' < es.length + xs.length → j < i.size → i' * i.size + j < (es.length + xs.length) * i.size := by
              intro i' j h1 h2
              have : (i' + 1) * i.size ≤ (es.length + xs.length) * i.size := Nat.mul_le_mul_right _ (by omega)
              rw [Nat.add_mul] at this; omega
            have hvn := vp_append (F := G.F) (F' := (G.addF w.heap.size fun k => if k < (es.length + xs.length) * i.size then arr'[k]? else none).F)
              (fun b o v hv => by simp [Gh.addF, hv]) (es := es) (xs := xs) (size := i.size) (b := w.heap.size) (off := 0) (cap := cap') (by omega) hle hes hxs
              (fun i' j p hp => by
                obtain ⟨y, a1, a2⟩ := ho1.2 i' j p hp
                have hb := at2_lt hes hp
                refine ⟨y, hFn _ y (by simpa using hbd i' j (by omega) hb.2) ?_, a2⟩
                rw [← harr, Nat.zero_add]
                have := (List.getElem?_eq_some_iff.1 a1).1
                rw [Array.append_assoc, Array.getElem?_append_left (by simpa using this)]
                simpa using a1)
              (fun i' j p hp => by
                obtain ⟨y, a1, a2⟩ := hn1.2 i' j p hp
                have hb := at2_lt hxs hp
                refine ⟨y, hFn _ y (by simpa using hbd (es.length + i') j (by omega) hb.2) ?_, a2⟩
                rw [← harr, Nat.zero_add, Nat.add_mul]
                have := (List.getElem?_eq_some_iff.1 a1).1
                rw [Array.append_assoc, Array.getElem?_append_right (by simp [ho1.1]; omega), Array.getElem?_append_left (by simp [ho1.1]; omega)]
                simp only [List.size_toArray, ho1.1, List.getElem?_toArray]
                rw [← a1]; congr 1; omega)
            refine VL.len (List.length_append (as := es) (bs := xs)) ?_
            refine .sl (size := i.size) hvn (by simpa using hge) (fun e he => (List.mem_append.1 he).elim (hes e) (hxs e)) ?_
            simp [Gh.addHist]
        · cases hr
    · cases hr
  · cases hr

/-- Growing what is empty: nothing of the room is fixed. -/
theorem run_growZ {ty u e rt : TypeId} (ht : P.underlying ty = some (.slice e)) (hd : P.underlying u = some (.int .i64)) {i : TypeInfo} (hi : P.info? e = some i) {z : Value} (hz : i.zero = some z)
    {base : Option Addr} {n : Nat} (hn0 : 0 < n) (h63 : n ≤ maxLen) (hb : n * i.bytes ≤ 140737488355328) (hsz : 0 < i.size) :
    (Builtin.append_ #[ty, u] rt #[.slice base 0 0, .int .i64 n]).run P w = .ok (.slice (some ⟨w.heap.size, 0, none⟩) n (grownCap w n 0 e))
      (w.drew.alloc (.cells (Builtin.zeroCells z.cells n ++ Builtin.zeroCells z.cells (grownCap w n 0 e - n)) e)) := by
  have hw : IntKind.i64.wrap (n : Int) = (n : Int) := by
    simp only [maxLen] at h63
    simp only [IntKind.wrap, IntKind.bits, IntKind.signed]
    simp
    omega
  have h0 : ¬ ((n : Int) < 0) := by omega
  have h48 : ¬ (281474976710656 < (n : Int) * (i.bytes : Int)) := by
    have : (n : Int) * (i.bytes : Int) = ((n * i.bytes : Nat) : Int) := by push_cast; rfl
    rw [this]; omega
  have hnn : ¬ (n = 0) := by omega
  have hsz0 : ¬ (i.size = 0) := by omega
  have h63' : ¬ (9223372036854775807 < (n : Int)) := by simp only [maxLen] at h63; omega
  have hfit := growslice_fits (need := n) (old := 0) (by omega) hb
  have h48' : ¬ (281474976710656 < Builtin.nextslicecap n 0 * i.bytes) := by omega
  have hu : (underlying u).run P w = .ok (.int .i64) w := run_underlying hd w
  have hold : (Builtin.firstCells i.size 0 (.slice base 0 0)).run P w.drew = .ok #[] w.drew := by
    cases base with
    | none => simp [Builtin.firstCells]
    | some a => simp [Builtin.firstCells, loadCells, loadCellsFrom]
  simp [Builtin.append_, run_underlying ht, hu, sizeOf, typeInfo, zeroValue, hi, hz, asInt, hw, h0, h48, hnn, hsz0, h63', h48', Question.forced, hold, newRow, grownCap, asIntOf]
  intro hc
  rcases Nat.mul_eq_zero.1 hc with hc | hc <;> omega

theorem op_grow {s x : Operand} {ty u e : TypeId} (ho : o.op = .call { callee := .builtin .append, args := #[s, x], argTypes := #[ty, u] })
    (ht : P.underlying ty = some (.slice e)) (hd : P.underlying u = some (.int .i64)) {i : TypeInfo} (hi : P.info? e = some i) {z : Value} (hz : i.zero = some z) (hzs : z.cells.size = i.size) (hsz : 0 < i.size)
    {s' x' : LX} (hs' : compX s = some s') (hx' : compX x = some x') {n : Int} (h1 : s'.ev t = .tight []) (h2 : x'.ev t = .p (.int .i64 n))
    (hr : (if n = 0 then some (.tight [], st) else if 0 < n ∧ n.toNat * i.bytes ≤ 140737488355328 ∧ n ≤ 9223372036854775807 then some (.gr st.length n.toNat, st ++ [.spare i.size 0]) else none) = some (v, st'))
    (h : WR G st w) (hx : XsR G t a o.op) : OpTo P o a w (Good G st w v st') := by
  have hs1 := hx s (by rw [ho]; simp [Op.operands, Call.operands]) s' hs'
  have hx1 := hx x (by rw [ho]; simp [Op.operands, Call.operands]) x' hx'
  have key : ∀ (r : Value) (w' : World), (Builtin.append_ #[ty, u] o.type #[a.eval s, a.eval x]).run P w = .ok r w' → (execOp a.eval o).run P w = .ok (.value r) w' := by
    intro r w' hrun
    simp [execOp, ho, resolve, invoke, builtin, hrun]
  rw [h1] at hs1; rw [h2] at hx1
  obtain ⟨ad, hu, hvp⟩ := hs1.tight_inv
  have hxu := hx1.int_inv
  simp only [List.length_nil] at hu
  split at hr
  · rename_i h0
    cases hr
    refine opTo_value (key (.slice ad 0 0) w ?_) (.same h (by rw [← hu]; exact hs1))
    rw [hu, hxu, h0]
    have huu : (underlying u).run P w = .ok (.int .i64) w := run_underlying hd w
    have hw0 : IntKind.i64.wrap 0 = 0 := by decide
    cases ad <;> simp [Builtin.append_, run_underlying ht, huu, sizeOf, typeInfo, hi, asInt, asIntOf, hw0, storeCells]
  · rename_i h0
    split at hr
    · rename_i hc
      cases hr
      obtain ⟨m, rfl⟩ := Int.eq_ofNat_of_zero_le (show 0 ≤ n by omega)
      have hm : ((m : Int)).toNat = m := by omega
      rw [hm] at hc ⊢
      have h63 : m ≤ maxLen := by simp only [maxLen]; omega
      have hrun := run_growZ (P := P) (w := w) (rt := o.type) (base := ad) (n := m) ht hd hi hz (by omega) h63 hc.2.1 hsz
      generalize hcap : grownCap w m 0 e = cap at hrun
      have hge : m ≤ cap := by rw [← hcap]; exact grownCap_ge ..
      have hle : cap ≤ maxLen := by rw [← hcap]; exact grownCap_le_maxLen _ _ _ _ h63
      generalize harr : Builtin.zeroCells z.cells m ++ Builtin.zeroCells z.cells (cap - m) = arr at hrun
      have hasz : arr.size = 0 + cap * i.size := by
        rw [← harr]; simp only [Array.size_append, size_zeros, hzs]
        rw [← Nat.add_mul, Nat.zero_add]; congr 1; omega
      have hw : WR G st w.drew := h.of_heap rfl
      obtain ⟨r1, r2⟩ := hw.newSpare arr e i.size 0 cap 0 hasz
      refine opTo_value (key _ _ (by rw [hu, hxu]; exact hrun)) ⟨_, r1, ?_, (Ext.of_heap (w := w) (w' := w.drew) rfl rfl rfl rfl).trans r2⟩
      exact .gr (size := i.size) hge hle (by simp [Gh.addHist])
    · cases hr

theorem VL.gr_inv {G : Gh} {tg n : Nat} {u : Value} (h : VL G (.gr tg n) u) : ∃ size b o cap, u = .slice (some ⟨b, o, none⟩) n cap ∧ n ≤ cap ∧ cap ≤ maxLen ∧ G.hist tg 0 = some ⟨b, o, cap, size⟩ := by
  cases h with | gr a b c => exact ⟨_, _, _, _, rfl, a, b, c⟩

theorem op_slice_gr {ty e : TypeId} {x : Operand} {lo hi mx : Option Operand} (ho : o.op = .slice ty x lo hi mx) (hty : P.underlying ty = some (.slice e)) {inf : TypeInfo} (hinf : P.info? e = some inf)
    {x' : LX} {lo' hi' mx' : Option LX} (hx' : compX x = some x') (hlo : compO lo = some lo') (hhi : compO hi = some hi') (hmx : compO mx = some mx') {tg n : Nat} (hs : x'.ev t = .gr tg n)
    (hln : lo' = none) (hmn : mx' = none) (h1 : bnd n (hi'.map (LX.ev t)) n = some 0)
    (h : WR G st w) (hx : XsR G t a o.op) : OpTo P o a w (Good G st w (.sl [] tg 0) st) := by
  have e1 := hx x (by rw [ho]; simp [Op.operands]) x' hx'
  rw [hs] at e1
  obtain ⟨size, b, off, cap, hu, hn, hm, hh⟩ := e1.gr_inv
  have hbo := run_bounds (P := P) (G := G) (t := t) (a := a) hlo hhi hmx (fun x hc y hy => hx x (by rw [ho]; rcases hc with rfl | rfl | rfl <;> simp [Op.operands]) y hy) hn (by simp [hmn]) (by rw [hmn]; rfl) h1 (by rw [hln]; rfl) w
  obtain ⟨b0, _⟩ := hbo
  rw [hmn] at b0
  refine opTo_value (run_sliceOp ho hty hinf hu b0) (.same h ?_)
  simp only [Option.isSome_none, Bool.false_eq_true, if_false, Nat.zero_mul, Nat.sub_zero, Option.map_some, Addr.add_lit, Nat.add_zero, ite_self]
  exact .sl (es := []) (size := size) (.sl0 _ cap hm) (Nat.zero_le _) (by simp) (by simpa using hh)

theorem op_slice_tight0 {ty e : TypeId} {x : Operand} {lo hi mx : Option Operand} (ho : o.op = .slice ty x lo hi mx) (hty : P.underlying ty = some (.slice e)) {inf : TypeInfo} (hinf : P.info? e = some inf)
    {x' : LX} {lo' hi' mx' : Option LX} (hx' : compX x = some x') (hlo : compO lo = some lo') (hhi : compO hi = some hi') (hmx : compO mx = some mx') (hs : x'.ev t = .tight [])
    (hln : lo' = none) (hmn : mx' = none) {hh : Nat} (h1 : bnd 0 (hi'.map (LX.ev t)) 0 = some hh)
    (h : WR G st w) (hx : XsR G t a o.op) : OpTo P o a w (Good G st w (.tight []) st) := by
  have e1 := hx x (by rw [ho]; simp [Op.operands]) x' hx'
  rw [hs] at e1
  obtain ⟨ad, hu, hvp⟩ := e1.tight_inv
  simp only [List.length_nil] at hu
  have hbo := run_bounds (P := P) (G := G) (t := t) (a := a) hlo hhi hmx (fun x hc y hy => hx x (by rw [ho]; rcases hc with rfl | rfl | rfl <;> simp [Op.operands]) y hy) (Nat.le_refl 0) (by simp [hmn]) (by rw [hmn]; rfl) h1 (by rw [hln]; rfl) w
  obtain ⟨b0, _, _, b3, _⟩ := hbo
  have : hh = 0 := by omega
  subst this
  rw [hmn] at b0
  refine opTo_value (run_sliceOp ho hty hinf hu b0) (.same h ?_)
  simp only [Option.isSome_none, Bool.false_eq_true, if_false, if_true, Nat.sub_self]
  rw [← hu]
  exact e1

end ops
end Go.LS
