/- A small semantics of loaded Go code that the kernel can run, part 6. -/
import Derived.Test.YtlkhoaoodgebjaaGreatDoorLsG5
import Derived.Maps.RangeRun
import Derived.Test.YtlkhoaoodgebjaaGreatDoorLsG1
set_option linter.unusedVariables false
set_option linter.unusedSimpArgs false
namespace Go.LS
theorem ops_part {P : Program} {call : CallF} (hok : CallOK P call) {ops : Array Oper} {rs : Nat → Bool} {Q : Exit → Act → World → Prop} {rest : List Nat} : ∀ (l : List Oper) (k : Nat) (los : List LOper) {t t' : List LV} {st st' : List LObj} {G : Gh} {w : World} {a : Act},
    (∀ i, i < l.length → l[i]? = ops[k + i]?) → compOps P rs ops k l = some los → runOps call los t st = some (t', st') → WR G st w → TR G t a →
    (∀ a' w' G', WR G' st' w' → TR G' t' a' → Ext0 G st w G' st' w' → a'.defers = a.defers → wpOps P ops Q rest a' w') → wpOps P ops Q (List.range' k l.length ++ rest) a w
  | [], k, los, t, t', st, st', G, w, a, hl, hc, hr, h, ht, hq => by
    simp only [compOps] at hc; cases hc
    simp only [runOps, Option.some.injEq, Prod.mk.injEq] at hr
    obtain ⟨rfl, rfl⟩ := hr
    exact hq a w G h ht (Ext.refl ..).to0 rfl
  | o :: l, k, los, t, t', st, st', G, w, a, hl, hc, hr, h, ht, hq => by
    simp only [compOps] at hc
    split at hc
    · rename_i x lr hx hlr
      cases hc
      unfold compOper at hx
      split at hx
      · rename_i g op hg hop
        cases hx
        have hk : ops[k]? = some o := by have := hl 0 (by simp); simpa using this.symm
        have hrest : ∀ i, i < l.length → l[i]? = ops[(k + 1) + i]? := fun i hi => by have := hl (i + 1) (by simpa using hi); simpa [Nat.add_assoc, Nat.add_comm 1 i] using this
        simp only [List.length_cons, List.range'_succ, wpOps, hk, List.cons_append]
        simp only [runOps] at hr
        split at hr
        · rename_i v st1 hstep
          unfold runOp at hstep
          simp only at hstep
          have go : ∀ (u : Value) (w1 : World) (G1 : Gh), WR G1 st1 w1 → VL G1 v u → Ext0 G st w G1 st1 w1 → wpOps P ops Q (List.range' (k + 1) l.length ++ rest) (a.put o.dst u) w1 := by
            intro u w1 G1 h1 hv hx1
            refine ops_part hok l (k + 1) lr hrest hlr hr h1 ((ht.mono hx1.le).put hv o.dst) ?_
            intro a' w' G' g1 g2 g3 g4
            exact hq a' w' G' g1 g2 (hx1.trans g3) (by rw [g4]; cases o.dst <;> rfl)
          split at hstep
          · rename_i hgd
            rw [if_pos (gd_sound ht hg hgd)]
            refine .inl (op_sound hok hop hstep h (ht.xs _) _ _ ?_)
            rintro u w1 ⟨G1, g1, g2, g3⟩
            exact go u w1 G1 g1 g2 g3.to0
          · rename_i hgd
            cases hstep
            have hw := gd_sound ht hg hgd
            rw [if_neg (by rw [hw]; simp)]
            exact go undef w G h (.unit G) (Ext.refl ..).to0
          · cases hstep
        · cases hr
      · cases hx
    · cases hc
theorem range_all (n : Nat) : List.range n = List.range' 0 n ++ [] := by rw [List.range_eq_range', List.append_nil]
theorem range_split (n k : Nat) (h : k ≤ n) : List.range n = List.range' 0 k ++ List.range' k (n - k) := by
  rw [List.range_eq_range']
  have := @List.range'_append 0 k (n - k) 1
  simp only [Nat.one_mul, Nat.zero_add] at this
  rw [this]
  congr 1; omega
theorem wpOps_hand {P : Program} {ops : Array Oper} {Q : Exit → Act → World → Prop} {i : Nat} {rest : List Nat} {o : Oper} (ho : ops[i]? = some o) (hg : o.guard = none) {a : Act} {w w' : World} {u : Value}
    (h : (execOp a.eval o).run P w = .ok (.value u) w') (hn : wpOps P ops Q rest (a.put o.dst u) w') : wpOps P ops Q (i :: rest) a w := by
  simp only [wpOps, ho]
  rw [if_pos (by unfold Region.wanted; rw [hg])]
  exact .inl (by unfold Oper.wp; rw [h]; exact hn)
theorem Oper.wp_Q {P : Program} {o : Oper} {a : Act} {w : World} {K : Act → World → Prop} {Q Q' : Exit → Act → World → Prop} (hq : ∀ e a w, e ≠ .normal → Q e a w → Q' e a w) (h : o.wp P a w K Q) : o.wp P a w K Q' := by
  have hl : LetsOut Q → LetsOut Q' := fun ⟨a, w, h⟩ => ⟨a, w, hq _ a w (by simp) h⟩
  unfold Oper.wp at *
  generalize (execOp a.eval o).run P w = r at *
  cases r with
  | ok n w' =>
    cases n <;> simp only [Oper.upon] at h ⊢ <;>
      first
        | exact h
        | exact Calls.mono h (fun e w'' he => by cases e <;> first | exact he | exact hq _ _ _ (by simp) he | exact hl he)
  | halt x w' => cases x <;> simp only [Oper.upon] at h ⊢ <;> first | exact h | exact hq _ _ _ (by simp) h
section last
variable {P : Program} {ops : Array Oper} {last : Oper} {Q : Exit → Act → World → Prop}
def lastQ (P : Program) (ops : Array Oper) (last : Oper) (Q : Exit → Act → World → Prop) : Exit → Act → World → Prop
  | .normal, a, w => last.wp P a w (Q .normal) Q
  | e, a, w => Q e a w
theorem wpOp_push (hgs : ∀ (i : Nat) o, ops[i]? = some o → o.guard = none) {i : Nat} (hi : i < ops.size) {K : Act → World → Prop} {a : Act} {w : World} (h : wpOp P ops (lastQ P ops last Q) i K a w) : wpOp P (ops.push last) Q i K a w := by
  have e : (ops.push last)[i]? = ops[i]? := by rw [Array.getElem?_push, if_neg (by omega)]
  unfold wpOp at *
  rw [e]
  cases ho : ops[i]? with
  | none => simp only [ho] at h ⊢; exact h
  | some o =>
    simp only [ho] at h ⊢
    have hw : ∀ y, Region.wanted o y = true := fun y => by unfold Region.wanted; rw [hgs i o ho]
    rw [if_pos (hw _)] at h ⊢
    have hq : ∀ e a w, e ≠ .normal → lastQ P ops last Q e a w → Q e a w := fun e a w he hh => by cases e <;> first | exact absurd rfl he | exact hh
    refine h.imp (Oper.wp_Q hq) fun ⟨h1, a, w, h2⟩ => ⟨h1, a, w, hq _ _ _ (by simp) h2⟩
theorem wpAny_last (hgs : ∀ (i : Nat) o, ops[i]? = some o → o.guard = none) (hgl : last.guard = none) (hdn : ∀ (i : Nat) o, ops[i]? = some o → ∀ e ∈ o.after, e.on < i)
    (hall : ∀ i, i < ops.size → ∃ e ∈ last.after, Region.binds .any e = true ∧ e.on = i) (hin : ∀ e ∈ last.after, e.on < ops.size) :
    ∀ (fuel : Nat) (L : Array Bool) (a : Act) (w : World), L.size = ops.size → wpAny P .any ops (lastQ P ops last Q) fuel L a w → wpAny P .any (ops.push last) Q (fuel + 1) (L.push false) a w := by
  have full : ∀ (L : Array Bool), L.size = ops.size → Region.ready .any ops L = [] → ∀ i, i < ops.size → L.getD i false = true := by
    intro L hL hnil i
    induction i using Nat.strongRecOn with
    | _ i ih =>
      intro hi
      refine Classical.byContradiction fun hn => ?_
      have h0 : L.getD i true = false := by
        simp only [Array.getD_eq_getD_getElem?, Array.getElem?_eq_getElem (show i < L.size by omega), Option.getD_some] at hn ⊢
        simpa using hn
      have : i ∈ Region.ready .any ops L := mem_ready.2 ⟨h0, ops[i], by simp [hi], fun e he _ => ih _ (hdn i _ (by simp [hi]) e he) (Nat.lt_trans (hdn i _ (by simp [hi]) e he) hi)⟩
      rw [hnil] at this; cases this
  have gp : ∀ (L : Array Bool), L.size = ops.size → ∀ i d, i < ops.size → (L.push false).getD i d = L.getD i d := by
    intro L hL i d hi
    simp only [Array.getD_eq_getD_getElem?, Array.getElem?_push, if_neg (show i ≠ L.size by omega)]
  have rd : ∀ (L : Array Bool), L.size = ops.size → ∀ i, i < ops.size → (i ∈ Region.ready .any (ops.push last) (L.push false) ↔ i ∈ Region.ready .any ops L) := by
    intro L hL i hi
    rw [mem_ready, mem_ready, gp L hL i true hi, Array.getElem?_push, if_neg (by omega)]
    constructor
    · rintro ⟨h1, o, ho, h2⟩
      exact ⟨h1, o, ho, fun e he hb => by rw [← gp L hL _ false (Nat.lt_trans (hdn i o ho e he) hi)]; exact h2 e he hb⟩
    · rintro ⟨h1, o, ho, h2⟩
      exact ⟨h1, o, ho, fun e he hb => by rw [gp L hL _ false (Nat.lt_trans (hdn i o ho e he) hi)]; exact h2 e he hb⟩
  have rl : ∀ (L : Array Bool), L.size = ops.size → (ops.size ∈ Region.ready .any (ops.push last) (L.push false) ↔ ∀ i, i < ops.size → L.getD i false = true) := by
    intro L hL
    rw [mem_ready]
    constructor
    · rintro ⟨_, o, ho, h2⟩ i hi
      simp only [Array.getElem?_push_size, Option.some.injEq] at ho
      subst ho
      obtain ⟨e, he, hb, rfl⟩ := hall i hi
      have := h2 e he hb
      rwa [gp L hL _ false hi] at this
    · intro h
      refine ⟨by simp [Array.getD_eq_getD_getElem?, ← hL], last, by simp, fun e he _ => ?_⟩
      rw [gp L hL _ false (hin e he)]
      exact h _ (hin e he)
  have fin : ∀ (L : Array Bool) (a : Act) (w : World) fuel, L.size = ops.size → (∀ i, i < ops.size → L.getD i false = true) → lastQ P ops last Q .normal a w →
      wpOp P (ops.push last) Q ops.size (wpAny P .any (ops.push last) Q fuel ((L.push false).setIfInBounds ops.size true)) a w := by
    intro L a w fuel hL h1 h2
    have hnr : Region.ready .any (ops.push last) ((L.push false).setIfInBounds ops.size true) = [] := by
      refine List.eq_nil_iff_forall_not_mem.2 fun j hj => ?_
      obtain ⟨h0, o, ho, _⟩ := mem_ready.1 hj
      have hlt := (Array.getElem?_eq_some_iff.1 ho).1
      simp only [Array.size_push] at hlt
      by_cases hj : j = ops.size
      · subst hj
        simp [Array.getD_eq_getD_getElem?, ← hL] at h0
      · have := h1 j (by omega)
        rw [Array.getD_eq_getD_getElem?, Array.getElem?_setIfInBounds_ne (Ne.symm hj), Array.getElem?_push, if_neg (by omega), ← Array.getD_eq_getD_getElem?] at h0
        simp only [Array.getD_eq_getD_getElem?, Array.getElem?_eq_getElem (show j < L.size by omega), Option.getD_some] at this h0
        rw [this] at h0; cases h0
    have hK : ∀ a w, Q .normal a w → wpAny P .any (ops.push last) Q fuel ((L.push false).setIfInBounds ops.size true) a w := by
      intro a w hq
      cases fuel with
      | zero => exact ⟨hnr, hq⟩
      | succ n => exact ⟨fun _ => hq, fun i hi => by rw [hnr] at hi; cases hi⟩
    unfold wpOp
    simp only [Array.getElem?_push_size]
    rw [if_pos (by unfold Region.wanted; rw [hgl])]
    exact .inl (Oper.wp_mono hK h2)
  intro fuel
  induction fuel with
  | zero =>
    intro L a w hL h
    obtain ⟨h1, h2⟩ := h
    have hf := full L hL h1
    refine ⟨fun hn => ?_, fun i hi => ?_⟩
    · have := (rl L hL).2 hf
      rw [hn] at this; cases this
    · have hlt : i ≤ ops.size := by
        obtain ⟨_, o, ho, _⟩ := mem_ready.1 hi
        have := (Array.getElem?_eq_some_iff.1 ho).1
        simp at this; omega
      rcases Nat.lt_or_ge i ops.size with hlt' | hge
      · rw [rd L hL i hlt', h1] at hi; cases hi
      · obtain rfl : i = ops.size := by omega
        exact fin L a w 0 hL hf h2
  | succ fuel ih =>
    intro L a w hL h
    obtain ⟨h1, h2⟩ := h
    refine ⟨fun hn => ?_, fun i hi => ?_⟩
    · exfalso
      have : Region.ready .any ops L = [] := List.eq_nil_iff_forall_not_mem.2 fun j hj => by
        have hlt : j < ops.size := by
          obtain ⟨_, o, ho, _⟩ := mem_ready.1 hj
          exact (Array.getElem?_eq_some_iff.1 ho).1
        have := (rd L hL j hlt).2 hj
        rw [hn] at this; cases this
      have := (rl L hL).2 (full L hL this)
      rw [hn] at this; cases this
    · have hlt : i ≤ ops.size := by
        obtain ⟨_, o, ho, _⟩ := mem_ready.1 hi
        have := (Array.getElem?_eq_some_iff.1 ho).1
        simp at this; omega
      rcases Nat.lt_or_ge i ops.size with hlt' | hge
      · have := wpOp_push hgs hlt' (h2 i ((rd L hL i hlt').1 hi))
        have e : (L.push false).setIfInBounds i true = (L.setIfInBounds i true).push false := by
          apply Array.ext
          · simp
          · intro j hj1 hj2
            simp only [Array.size_setIfInBounds, Array.size_push] at hj1
            rw [← Option.some_inj, ← Array.getElem?_eq_getElem, ← Array.getElem?_eq_getElem]
            by_cases hij : i = j
            · subst hij
              rw [Array.getElem?_setIfInBounds_self_of_lt (by simp; omega), Array.getElem?_push, if_neg (by simp; omega), Array.getElem?_setIfInBounds_self_of_lt (by omega)]
            · rw [Array.getElem?_setIfInBounds_ne hij, Array.getElem?_push, Array.getElem?_push, Array.getElem?_setIfInBounds_ne hij]
              simp
        rw [e]
        exact wpOp_mono (fun a w hh => ih _ a w (by simp [hL]) hh) this
      · obtain rfl : i = ops.size := by omega
        have hf := (rl L hL).1 hi
        have hnil : Region.ready .any ops L = [] := List.eq_nil_iff_forall_not_mem.2 fun j hj => by
          obtain ⟨h0, o, ho, _⟩ := mem_ready.1 hj
          have hlt := (Array.getElem?_eq_some_iff.1 ho).1
          have := hf j hlt
          simp only [Array.getD_eq_getD_getElem?, Array.getElem?_eq_getElem (show j < L.size by omega), Option.getD_some] at this h0
          rw [this] at h0; cases h0
        exact fin L a w _ hL hf (h1 hnil)
theorem drawn_last (hm : P.follows .mixedOrders = true) {call : CallF} (hok : CallOK P call) {rs : Nat → Bool} {cl : LOp → Cls} {es : List DOp} (h : compDrawn1 P rs ops cl = some es)
    (hgs : ∀ (i : Nat) o, ops[i]? = some o → o.guard = none) (hgl : last.guard = none) (hdn : ∀ (i : Nat) o, ops[i]? = some o → ∀ e ∈ o.after, e.on < i)
    (hall : ∀ i, i < ops.size → ∃ e ∈ last.after, Region.binds .any e = true ∧ e.on = i) (hin : ∀ e ∈ last.after, e.on < ops.size)
    {t t' : List LV} {st st' : List LObj} {G : Gh} {w : World} {a : Act} (id : Nat) (hr : runDrawn call es [] t st = some (t', st')) (hw : WR G st w) (ht : TR G t a)
    (hq : ∀ a' w' G', WR G' st' w' → TR G' t' a' → Ext0 G st w G' st' w' → a'.defers = a.defers → last.wp P a' w' (Q .normal) Q) : (Code.region id (ops.push last) true).wp P Q a w := by
  refine wp_region_any hm ?_
  rw [Array.size_push, Array.replicate_succ]
  refine wpAny_last hgs hgl hdn hall hin ops.size (Array.replicate ops.size false) a _ (by simp) ?_
  unfold compDrawn1 at h
  split at h
  · cases h
  · rename_i los hc
    simp only at h
    split at h
    · rename_i hb
      cases h
      have hs := schedB_sound hc hb
      generalize mkEs los _ _ _ = es at hs hr
      obtain ⟨T, S, V, tr, e1, e2, e3, e4, _⟩ := runDrawn_trace es [] t t' st st' hr (by simp)
      subst e1; subst e2; subst e3; subst e4
      have h' : WR G (S 0) { w with drawn := w.drawn + 1 } := hw.of_heap rfl
      have hx' : Ext0 G (S 0) w G (S 0) { w with drawn := w.drawn + 1 } := (Ext.of_heap (G := G) (st := S 0) (w := w) (w' := { w with drawn := w.drawn + 1 }) rfl rfl rfl rfl).to0
      have hmk : ∀ (p : Nat) (d : DOp), es[p]? = some d → d.cls = .a → S (p + 1) = S p ∨ ∃ x, S (p + 1) = S p ++ [x] := drawn_mk hs tr
      obtain ⟨m, a1, a2, a3, a4, a5, a6, a7⟩ := advance (G0 := G) (w0 := w) (L := Array.replicate ops.size false) tr hmk es.length 0 rfl (Nat.zero_le _) h' hx' (fun p d x hp => by omega)
      have hnl : ∀ i, ¬ LL (Array.replicate ops.size false) i := by
        intro i hi
        unfold LL at hi
        by_cases hlt : i < ops.size
        · simp [hlt] at hi
        · simp [hlt] at hi
      refine drawn_any (Q := lastQ P ops last Q) (G0 := G) (w0 := w) hok hs tr (df := a.defers) (fun a' w' G' g1 g2 g3 g4 => hq a' w' G' g1 g2 g3 g4) ops.size _ a _ m G [] ⟨by simp, fun i hi => absurd hi (hnl i), a2, fun p d hp hd hc => absurd hc (a3 p d (by omega) hp hd), fun d hd => ⟨a4 d hd, hnl _⟩, a5, a6, a7, ht.1, fun i hi p d hp hl => absurd hl (hnl _), fun i hi _ => ht.get i⟩
        List.nodup_nil (by simp) (by simp) rfl
    · cases h
end last
theorem TR.sub {G : Gh} {t t' : List LV} {a : Act} (h : TR G t a) (hl : t'.length = t.length) (hs : ∀ (i : Nat) v, t'[i]? = some v → v = .und ∨ t[i]? = some v) : TR G t' a :=
  ⟨by rw [hl]; exact h.1, fun i v hv => by
    rcases hs i v hv with rfl | h'
    · exact .und _
    · exact h.2 i v h'⟩
def Gh.restr (G : Gh) (n : Nat) : Gh := { F := G.F, loc := fun o => if o < n then G.loc o else none, hist := fun o f => if o < n then G.hist o f else none }
theorem VL.restr {G : Gh} {n : Nat} {v : LV} {u : Value} (h : VL G v u) (hr : ∀ o ∈ v.refs, o < n) : VL (G.restr n) v u := by
  have := VL.ren (G := G) (G' := G.restr n) (fun _ _ _ h => h) (fun o => o) h (fun o ho l hl => by simp only [Gh.restr]; rw [if_pos (hr o ho)]; exact hl) (fun o ho f s hs => by simp only [Gh.restr]; rw [if_pos (hr o ho)]; exact hs)
  rwa [LV.ren_id] at this
theorem Owns.restr {G : Gh} {S J : List LObj} {o b : Nat} (h : Owns (G.restr S.length) S o b) : Owns G (S ++ J) o b := by
  have hlt := h.lt
  unfold Owns at *
  rw [List.getElem?_append_left hlt]
  simp only [Gh.restr, if_pos hlt] at h
  exact h
theorem WR.drop {G : Gh} {S J : List LObj} {w : World} (h : WR G (S ++ J) w) (hc : ∀ (o : Nat) x, S[o]? = some x → ∀ q ∈ x.refs, q < S.length) : WR (G.restr S.length) S w := by
  have hlt : ∀ {o : Nat} {x : LObj}, S[o]? = some x → o < S.length := fun e => (List.getElem?_eq_some_iff.1 e).1
  have up : ∀ {o : Nat} {x : LObj}, S[o]? = some x → (S ++ J)[o]? = some x := fun e => by rw [List.getElem?_append_left (hlt e)]; exact e
  have ll : ∀ {o : Nat} {x : LObj}, S[o]? = some x → (G.restr S.length).loc o = G.loc o := fun e => by simp only [Gh.restr, if_pos (hlt e)]
  have lh : ∀ {o : Nat} {x : LObj}, S[o]? = some x → ∀ f, (G.restr S.length).hist o f = G.hist o f := fun e f => by simp only [Gh.restr, if_pos (hlt e)]
  refine ⟨h.fr, fun o ho => ⟨by simp only [Gh.restr, if_neg (show ¬ o < S.length by omega)], fun f => by simp only [Gh.restr, if_neg (show ¬ o < S.length by omega)]⟩, ?_, ?_, ?_, ?_, fun o o' b h1 h2 => h.uniq o o' b h1.restr h2.restr, ?_, ?_⟩
  · intro o es ho l hl
    rw [ll ho] at hl
    obtain ⟨blk, size, n, e, arr, ty, hb, r1, r2, r3, r4⟩ := h.row o es (up ho) l hl
    refine ⟨blk, size, n, e, arr, ty, hb, r1, r2, r3, fun i j c hij => ?_⟩
    obtain ⟨u, a1, a2, a3⟩ := r4 i j c hij
    refine ⟨u, a1, a2.restr fun q hq => hc o _ ho q ?_, a3⟩
    unfold at2 at hij
    simp only [Option.bind_eq_some_iff] at hij
    obtain ⟨e', he, hj⟩ := hij
    simp only [LObj.refs, List.mem_flatMap]
    exact ⟨e', List.mem_of_getElem? he, by simpa [LV.refsL_eq] using ⟨c, List.mem_of_getElem? hj, hq⟩⟩
  · intro o kv ho l hl
    rw [ll ho] at hl
    obtain ⟨blk, e, es, c, hb, ⟨m1, m2⟩, r⟩ := h.map o kv (up ho) l hl
    refine ⟨blk, e, es, c, hb, ⟨m1, fun i k v hi => ?_⟩, r⟩
    obtain ⟨e', a1, a2, a3⟩ := m2 i k v hi
    refine ⟨e', a1, a2, a3.restr fun q hq => hc o _ ho q ?_⟩
    simp only [LObj.refs, List.mem_flatMap]
    exact ⟨_, List.mem_of_getElem? hi, hq⟩
  · intro o s p ho l hl
    rw [ll ho] at hl
    exact h.iter o s p (up ho) l hl
  · intro o n hw ho
    obtain ⟨h1, h2⟩ := h.spare o n hw (up ho)
    refine ⟨fun f hf => by rw [lh ho]; exact h1 f hf, fun s hs => ?_⟩
    rw [lh ho] at hs
    exact h2 s hs
  · intro o b ho hn off
    refine h.ownF o b ho.restr (fun ⟨n, hw, e⟩ => hn ⟨n, hw, ?_⟩) off
    rwa [List.getElem?_append_left ho.lt] at e
  · intro o x ho hx f
    rw [lh ho]
    exact h.kind o x (up ho) hx f
theorem Ext0.drop {G G' : Gh} {S S' J : List LObj} {w w' : World} (h : Ext0 G S w G' (S' ++ J) w') (hd : ∀ o, S.length ≤ o → G.loc o = none ∧ ∀ f, G.hist o f = none) (hl : S.length ≤ S'.length) : Ext0 G S w (G'.restr S'.length) S' w' := by
  refine ⟨⟨h.le.F, fun o l hl' => ?_, fun o f s hs => ?_⟩, h.os, h.tape, h.output, h.hsz, h.unch, fun o b ho hb => h.own o b ho.restr hb, h.newF⟩
  · have : o < S'.length := by
      rcases Nat.lt_or_ge o S.length with h1 | h1
      · omega
      · rw [(hd o h1).1] at hl'; cases hl'
    simp only [Gh.restr, if_pos this]; exact h.le.loc _ _ hl'
  · have : o < S'.length := by
      rcases Nat.lt_or_ge o S.length with h1 | h1
      · omega
      · rw [(hd o h1).2] at hs; cases hs
    simp only [Gh.restr, if_pos this]; exact h.le.hist _ _ _ hs
theorem TR.restr {G : Gh} {n : Nat} {t : List LV} {a : Act} (h : TR G t a) (hr : ∀ (i : Nat) v, t[i]? = some v → ∀ o ∈ v.refs, o < n) : TR (G.restr n) t a :=
  ⟨h.1, fun i v hv => (h.2 i v hv).restr (hr i v hv)⟩
end Go.LS
set_option linter.unusedVariables false
set_option linter.unusedSimpArgs false
namespace Go.LS
def nmB (s : List UInt8) : Bool := decide (1 ≤ s.length) && decide (s.length ≤ 24)
def ksV (ks : List (List UInt8 × Int)) : List (PV × LV) := ks.map fun x => (.str x.1, .p (.int .i64 x.2))
def kset (s : List UInt8) (n : Int) : List (List UInt8 × Int) → List (List UInt8 × Int)
  | [] => [(s, n)]
  | (j, u) :: r => if s == j then (s, n) :: r else (j, u) :: kset s n r
def kget (s : List UInt8) : List (List UInt8 × Int) → Option Int
  | [] => none
  | (j, u) :: r => if s == j then some u else kget s r
theorem mset_ksV (s : List UInt8) (n : Int) : ∀ ks, mset (.str s) (.p (.int .i64 n)) (ksV ks) = some (ksV (kset s n ks))
  | [] => rfl
  | (j, u) :: r => by
    have ih := mset_ksV s n r
    simp only [ksV] at ih
    simp only [ksV, List.map_cons, mset, pvEq, kset]
    cases h : s == j
    · simp [ih]
    · simp
theorem mfind_ksV (s : List UInt8) : ∀ ks, mfind (.str s) (ksV ks) = some ((kget s ks).map fun n => .p (.int .i64 n))
  | [] => rfl
  | (j, u) :: r => by
    have ih := mfind_ksV s r
    simp only [ksV] at ih
    simp only [ksV, List.map_cons, mfind, pvEq, kget]
    cases h : s == j
    · simp [ih]
    · simp
def kOk (ks : List (List UInt8 × Int)) : Prop := ∀ x ∈ ks, 0 ≤ x.2
theorem kset_ok {s : List UInt8} {n : Int} (hn : 0 ≤ n) : ∀ {ks}, kOk ks → kOk (kset s n ks)
  | [], _ => by intro x hx; simp [kset] at hx; subst hx; exact hn
  | (j, u) :: r, h => by
    simp only [kset]
    split
    · intro x hx
      rcases List.mem_cons.1 hx with rfl | hx
      · exact hn
      · exact h x (List.mem_cons_of_mem _ hx)
    · intro x hx
      rcases List.mem_cons.1 hx with rfl | hx
      · exact h _ List.mem_cons_self
      · exact kset_ok hn (fun y hy => h y (List.mem_cons_of_mem _ hy)) x hx
theorem kget_ok {s : List UInt8} {n : Int} : ∀ {ks}, kOk ks → kget s ks = some n → 0 ≤ n
  | [], _, e => by simp [kget] at e
  | (j, u) :: r, h, e => by
    simp only [kget] at e
    split at e
    · cases e; exact h _ List.mem_cons_self
    · exact kget_ok (fun y hy => h y (List.mem_cons_of_mem _ hy)) e
def keepOf : List (List PV) → List (List UInt8 × Int) → Option (Option (List (List UInt8 × Int)))
  | [], ks => some (some ks)
  | [.str s, .int .i64 n] :: r, ks => if nmB s then keepOf r (kset s (if n < 0 then 0 else n) ks) else some none
  | _, _ => none
abbrev Ent := List UInt8 × List (List PV) × Int
def entOf : PV × LV → Option Ent
  | (.str s, .agg [x, .p (.int .i64 u)]) => match x.asSl with
    | some B => if (B.all fun e => e.length == 1) && decide (0 ≤ u) && decide (u ≤ B.length) then some (s, B, u) else none
    | none => none
  | _ => none
def entsOf : List (PV × LV) → Option (List Ent)
  | [] => some []
  | x :: r => match entOf x, entsOf r with
    | some e, some l => some (e :: l)
    | _, _ => none
def cutN (ks : List (List UInt8 × Int)) (s : List UInt8) (B : List (List PV)) (u : Int) : Int :=
  u + (if (B.length : Int) - u < (kget s ks).getD 0 then (B.length : Int) - u else (kget s ks).getD 0)
def entOld (e : Ent) : PV × LV := (.str e.1, .agg [.p (.sl e.2.1), .p (.int .i64 e.2.2)])
def entNew (ks : List (List UInt8 × Int)) (e : Ent) : PV × LV := (.str e.1, .agg [.p (.sl (e.2.1.take (cutN ks e.1 e.2.1 e.2.2).toNat)), .p (.int .i64 (cutN ks e.1 e.2.1 e.2.2))])
def sCrash (args : List LV) (st : List LObj) : Option (LV × List LObj) :=
  match args with
  | [.p .nilp, _] => some (.p (.int .i64 6), st)
  | [.ptr o 0 0, l] => match l.asSl with
    | none => none
    | some rows => match st[o]? with
      | some (.row [[.mp m, .p a, .p b, .p c]]) => match st[m]? with
        | some (.map kv) => match keepOf rows [] with
          | none => none
          | some none => some (.p (.int .i64 1), st)
          | some (some ks) => match entsOf kv with
            | none => none
            | some es => if nodupB (es.map (·.1)) then
                some (.p (.int .i64 0), (st.set m (.map (es.map (entNew ks)))).set o (.row [[.mp m, .p (.int .i64 (-1)), .p (.int .i64 0), .p (.bool false)]]))
              else none
        | _ => none
      | _ => none
  | _ => none
def lk : List (Nat × LV) → Nat → LV
  | [], _ => .und
  | (j, v) :: r, i => if i == j then v else lk r i
def mkT (f : List (Nat × LV)) : List LV := (List.range 74).map (lk f)
theorem mkT_len (f : List (Nat × LV)) : (mkT f).length = 74 := by simp [mkT]
theorem mkT_get (f : List (Nat × LV)) (i : Nat) (h : i < 74) : (mkT f).getD i .und = lk f i := by
  simp [mkT, List.getD, h]
theorem mkT_put (f : List (Nat × LV)) (d : Nat) (v : LV) (h : d < 74) : putT (mkT f) (some d) v = mkT ((d, v) :: f) := by
  simp only [putT]
  apply List.ext_getElem?
  intro i
  by_cases hi : i < 74
  · by_cases hd : i = d
    · subst hd
      rw [List.getElem?_set_self (by rw [mkT_len]; exact hi)]
      simp [mkT, hi, lk]
    · rw [List.getElem?_set_ne (Ne.symm hd)]
      simp [mkT, hi, lk, hd]
  · rw [List.getElem?_eq_none (by simp [mkT_len]; omega), List.getElem?_eq_none (by simp [mkT_len]; omega)]
def Sub : List (Nat × LV) → List (Nat × LV) → Prop
  | [], _ => True
  | p :: r, f => lk f p.1 = p.2 ∧ Sub r f
theorem sub_lk : ∀ {g f : List (Nat × LV)}, Sub g f → ∀ i, lk g i = .und ∨ lk g i = lk f i
  | [], _, _, i => .inl rfl
  | (j, v) :: r, f, h, i => by
    simp only [lk]
    split
    · rename_i e
      simp only [beq_iff_eq] at e
      subst e
      exact .inr h.1.symm
    · exact sub_lk h.2 i
theorem TR.forget {G : Gh} {f : List (Nat × LV)} {a : Act} (h : TR G (mkT f) a) (g : List (Nat × LV)) (hs : Sub g f) : TR G (mkT g) a :=
  h.sub (by simp [mkT_len]) fun i v hv => by
    have hi : i < 74 := by
      have := (List.getElem?_eq_some_iff.1 hv).1
      rwa [mkT_len] at this
    simp only [mkT, List.getElem?_map, List.getElem?_range hi, Option.map_some, Option.some.injEq] at hv ⊢
    subst hv
    exact (sub_lk hs i).imp id Eq.symm
theorem TR.at {G : Gh} {f : List (Nat × LV)} {a : Act} (h : TR G (mkT f) a) (i : Nat) (hi : i < 74) : VL G (lk f i) (a.tmps.getD i undef) := by
  have := h.get i
  rwa [mkT_get f i hi] at this
theorem TR.putM {G : Gh} {f : List (Nat × LV)} {a : Act} (h : TR G (mkT f) a) {v : LV} {u : Value} (hv : VL G v u) (d : Nat) (hd : d < 74) : TR G (mkT ((d, v) :: f)) (a.put (some d) u) := by
  have := h.put hv (some d)
  rwa [mkT_put f d v hd] at this
section runs
variable {call : CallF}
theorem rnil {t : List LV} {st : List LObj} : runOps call [] t st = some (t, st) := rfl
theorem rstep {o : LOp} {d : Nat} {r : List LOper} {f f' : List (Nat × LV)} {st st1 st' : List LObj} {v : LV} (hd : d < 74) (h : opStep call (mkT f) st o = some (v, st1))
    (hr : runOps call r (mkT ((d, v) :: f)) st1 = some (mkT f', st')) : runOps call (⟨some d, o, none⟩ :: r) (mkT f) st = some (mkT f', st') := by
  simp only [runOps, runOp, gd, h]
  rw [mkT_put f d v hd]
  exact hr
theorem rstepN {o : LOp} {r : List LOper} {f f' : List (Nat × LV)} {st st1 st' : List LObj} {v : LV} (h : opStep call (mkT f) st o = some (v, st1))
    (hr : runOps call r (mkT f) st1 = some (mkT f', st')) : runOps call (⟨none, o, none⟩ :: r) (mkT f) st = some (mkT f', st') := by
  simp only [runOps, runOp, gd, h, putT]
  exact hr
theorem dstep {o : LOp} {i d : Nat} {r : List DOp} {f f' : List (Nat × LV)} {st st' : List LObj} {v : LV} (hd : d < 74) (hp : pureV o v = true) (h : opStep call (mkT f) st o = some (v, st))
    (hr : ∀ held, runDrawn call r held (mkT ((d, v) :: f)) st = some (mkT f', st')) (held : List (DOp × List LV × LV)) : runDrawn call (⟨.h, i, [], ⟨some d, o, none⟩⟩ :: r) held (mkT f) st = some (mkT f', st') := by
  simp only [runDrawn, runOp, gd, h, hp, if_true]
  rw [mkT_put f d v hd]
  exact hr _
theorem dnil {held : List (DOp × List LV × LV)} {t : List LV} {st : List LObj} : runDrawn call [] held t st = some (t, st) := rfl
theorem callIso_str {K : Nat} {s : List UInt8} {r : PV} {st : List LObj} (h : call K [.p (.str s)] [] = some (.p r, [])) : callIso call K [.p (.str s)] st = some (.p r, st) := by
  have hw : wk (call.weak K) [.p (.str s)] = [.p (.str s)] := by cases call.weak K <;> rfl
  unfold callIso
  simp only [hw]
  show (if _ then _ else _) = _
  simp [LV.refs, reach, closed, sub, LV.ren, h, putBack]
end runs
end Go.LS
set_option linter.unusedVariables false
set_option linter.unusedSimpArgs false
namespace Go.LS
abbrev CallLe (c c' : CallF) : Prop := ∀ f a s r, c f a s = some r → c' f a s = some r ∧ c'.weak f = c.weak f
theorem callIso_mono {c c' : CallF} (h : CallLe c c') {f : FuncId} {args : List LV} {st : List LObj} {r : LV × List LObj} (hr : callIso c f args st = some r) : callIso c' f args st = some r := by
  unfold callIso at hr ⊢
  simp only at hr ⊢
  split at hr
  · rename_i hcl
    split at hr
    · rename_i v st' hc
      obtain ⟨h1, h2⟩ := h _ _ _ _ hc
      rw [h2, if_pos hcl, h1]
      exact hr
    · cases hr
  · cases hr
theorem callFz_mono {c c' : CallF} (h : CallLe c c') : CallLe (callFz c) (callFz c') := by
  intro f a s r hr
  unfold callFz at hr ⊢
  simp only at hr ⊢
  split at hr
  · rename_i v st' hc
    obtain ⟨h1, h2⟩ := h _ _ _ _ hc
    rw [h1]
    exact ⟨hr, h2⟩
  · cases hr
theorem opStep_mono {c c' : CallF} (h : CallLe c c') {t : List LV} {st : List LObj} {op : LOp} {r : LV × List LObj} (hr : opStep c t st op = some r) : opStep c' t st op = some r := by
  cases op
  case call f args => simp only [opStep] at hr ⊢; exact callIso_mono h hr
  case callz f args => simp only [opStep] at hr ⊢; exact callIso_mono (callFz_mono h) hr
  case callv f args =>
    simp only [opStep] at hr ⊢
    split at hr
    · exact callIso_mono h hr
    · cases hr
  all_goals exact hr
theorem runOp_mono {c c' : CallF} (h : CallLe c c') {t : List LV} {st : List LObj} {o : LOper} {r : LV × List LObj} (hr : runOp c t st o = some r) : runOp c' t st o = some r := by
  unfold runOp at hr ⊢
  split at hr
  · exact opStep_mono h hr
  · exact hr
  · cases hr
theorem runOps_mono {c c' : CallF} (h : CallLe c c') : ∀ {l : List LOper} {t : List LV} {st : List LObj} {r : List LV × List LObj}, runOps c l t st = some r → runOps c' l t st = some r
  | [], t, st, r, hr => hr
  | o :: l, t, st, r, hr => by
    simp only [runOps] at hr ⊢
    split at hr
    · rename_i v st' hs
      rw [runOp_mono h hs]
      exact runOps_mono h hr
    · cases hr
theorem heldOk_mono {c c' : CallF} (h : CallLe c c') {st : List LObj} {held : List (DOp × List LV × LV)} (hr : heldOk c st held = true) : heldOk c' st held = true := by
  unfold heldOk at hr ⊢
  rw [List.all_eq_true] at hr ⊢
  intro x hx
  have := hr x hx
  split at this
  · rename_i v s hs
    rw [runOp_mono h hs]
    exact this
  · cases this
theorem runDrawn_mono {c c' : CallF} (h : CallLe c c') : ∀ {l : List DOp} {held : List (DOp × List LV × LV)} {t : List LV} {st : List LObj} {r : List LV × List LObj}, runDrawn c l held t st = some r → runDrawn c' l held t st = some r
  | [], held, t, st, r, hr => hr
  | d :: l, held, t, st, r, hr => by
    simp only [runDrawn] at hr ⊢
    split at hr
    · cases hr
    · rename_i v st' hs
      rw [runOp_mono h hs]
      simp only
      split at hr
      · split at hr
        · rename_i hp; rw [if_pos hp]; exact runDrawn_mono h hr
        · cases hr
      · split at hr
        · rename_i hp
          simp only [Bool.and_eq_true] at hp
          rw [if_pos (by simp [hp.1, heldOk_mono h hp.2])]; exact runDrawn_mono h hr
        · cases hr
      · split at hr
        · rename_i hp
          simp only [Bool.and_eq_true] at hp
          rw [if_pos (by simp only [Bool.and_eq_true]; exact ⟨hp.1, heldOk_mono h hp.2⟩)]; exact runDrawn_mono h hr
        · cases hr
theorem both_same (r : LOut × List LV × List LObj) : both (some r) (some r) = some r := by
  unfold both
  simp [LV.eqbs_refl, eqbSt_refl]
theorem exec_mono {c c' : CallF} (h : CallLe c c') {k : Nat} : ∀ {n m : Nat}, n ≤ m → ∀ {lc : LCode} {t : List LV} {st : List LObj} {r : LOut × List LV × List LObj}, exec c k n lc t st = some r → exec c' k m lc t st = some r
  | 0, m, _, lc, t, st, r, hr => by simp [exec] at hr
  | n + 1, 0, hnm, lc, t, st, r, hr => by omega
  | n + 1, m + 1, hnm, lc, t, st, r, hr => by
    have hle : n ≤ m := by omega
    cases lc with
    | skip => exact hr
    | exit id mask => exact hr
    | ret mask => exact hr
    | fail => simp [exec] at hr
    | region ops =>
      simp only [exec] at hr ⊢
      split at hr
      · rename_i t' st' hs
        rw [runOps_mono h hs]; exact hr
      · cases hr
    | drawn ops =>
      simp only [exec] at hr ⊢
      split at hr
      · rename_i t' st' hs
        rw [runDrawn_mono h hs]; exact hr
      · cases hr
    | seq a b =>
      have go : ∀ {la : LCode} {r}, cont2 (exec c k n la t st) (exec c k n b) = some r → cont2 (exec c' k m la t st) (exec c' k m b) = some r := by
        intro la r hr
        cases ha : exec c k n la t st with
        | none => rw [ha] at hr; cases hr
        | some x =>
          rw [ha] at hr
          rw [exec_mono h hle ha]
          obtain ⟨o, t', st'⟩ := x
          cases o with
          | normal => exact exec_mono h hle hr
          | _ => exact hr
      simp only [exec] at hr ⊢
      exact go hr
    | both x a b d =>
      have go : ∀ {la : LCode} {r}, cont2 (exec c k n la t st) (exec c k n d) = some r → cont2 (exec c' k m la t st) (exec c' k m d) = some r := by
        intro la r hr
        cases ha : exec c k n la t st with
        | none => rw [ha] at hr; cases hr
        | some x =>
          rw [ha] at hr
          rw [exec_mono h hle ha]
          obtain ⟨o, t', st'⟩ := x
          cases o with
          | normal => exact exec_mono h hle hr
          | _ => exact hr
      simp only [exec] at hr ⊢
      split at hr
      · exact go hr
      · exact go hr
      · obtain ⟨e1, e2⟩ := both_eq hr
        rw [go e1, go e2]
        exact both_same r
      · cases hr
    | cond x a b =>
      simp only [exec] at hr ⊢
      split at hr
      · exact exec_mono h hle hr
      · exact exec_mono h hle hr
      · obtain ⟨e1, e2⟩ := both_eq hr
        rw [exec_mono h hle e1, exec_mono h hle e2]
        exact both_same r
      · cases hr
    | block id mask a =>
      simp only [exec] at hr ⊢
      cases ha : exec c k n a t st with
      | none => rw [ha] at hr; cases hr
      | some x =>
        rw [ha] at hr
        rw [exec_mono h hle ha]
        exact hr
    | loop mask a =>
      simp only [exec] at hr ⊢
      split at hr
      · rename_i t0 st0 hg
        cases ha : exec c k n a t0 st0 with
        | none => rw [ha] at hr; cases hr
        | some x =>
          rw [ha] at hr
          rw [exec_mono h hle ha]
          obtain ⟨o, t', st'⟩ := x
          cases o with
          | normal => exact exec_mono h hle hr
          | _ => exact hr
      · cases hr
theorem runF_mono {lp : LProg} : ∀ {n m : Nat}, n ≤ m → CallLe (runF lp n) (runF lp m)
  | 0, m, _ => fun f a s r h => by simp [runF] at h
  | n + 1, 0, hnm => by omega
  | n + 1, m + 1, hnm => by
    intro f a s r h
    refine ⟨?_, rfl⟩
    simp only [runF] at h ⊢
    split at h
    · exact h
    · split at h
      · cases h
      · rename_i lf hlf
        split at h
        · cases h
        · rename_i out t' st' hne hex
          rw [exec_mono (runF_mono (show n ≤ m by omega)) (show n ≤ m by omega) hex]
          simp only
          cases out with
          | exit i => exact (hne i rfl).elim
          | _ => exact h
        · cases h
def Runs (lp : LProg) (f : FuncId) (args : List LV) (st : List LObj) (r : LV × List LObj) : Prop := ∃ n, runF lp n f args st = some r
def Exec (lp : LProg) (k : Nat) (c : LCode) (t : List LV) (st : List LObj) (r : LOut × List LV × List LObj) : Prop := ∃ n, exec (runF lp n) k n c t st = some r
theorem Exec.at {lp : LProg} {k : Nat} {c : LCode} {t : List LV} {st : List LObj} {r : LOut × List LV × List LObj} (h : Exec lp k c t st r) : ∃ n, ∀ m, n ≤ m → exec (runF lp m) k m c t st = some r :=
  let ⟨n, hn⟩ := h
  ⟨n, fun m hm => exec_mono (runF_mono hm) hm hn⟩
theorem Runs.at {lp : LProg} {f : FuncId} {args : List LV} {st : List LObj} {r : LV × List LObj} (h : Runs lp f args st r) : ∃ n, ∀ m, n ≤ m → runF lp m f args st = some r :=
  let ⟨n, hn⟩ := h
  ⟨n, fun m hm => (runF_mono hm _ _ _ _ hn).1⟩
def RunsZ (lp : LProg) (f : FuncId) (args : List LV) (st : List LObj) (r : LV × List LObj) : Prop := ∃ n, callFz (runF lp n) f args st = some r
theorem RunsZ.at {lp : LProg} {f : FuncId} {args : List LV} {st : List LObj} {r : LV × List LObj} (h : RunsZ lp f args st r) : ∃ n, ∀ m, n ≤ m → callFz (runF lp m) f args st = some r := by
  obtain ⟨n, hn⟩ := h
  exact ⟨n, fun m hm => (callFz_mono (runF_mono hm) _ _ _ _ hn).1⟩
theorem gc_pure {st : List LObj} {vs : List LV} (h : vs.flatMap LV.refs = []) : gc 0 vs st = some (vs.map (LV.ren fun q => ([] : List Nat).idxOf q), []) := by
  unfold gc gcIds
  simp only [List.take_zero, List.flatMap_nil, h, List.append_nil, List.range_zero]
  have e : reach st 100000 [] [] = [] := rfl
  rw [e]
  exact if_pos rfl
theorem Runs.z {lp : LProg} {f : FuncId} {args : List LV} {r v : LV} {st st' : List LObj} (h : Runs lp f args [] (r, st)) (hf : frzV st r = (v, st')) (hv : v.refs = []) (hr : v.ren (fun q => ([] : List Nat).idxOf q) = v) : RunsZ lp f args [] (v, []) := by
  obtain ⟨n, hn⟩ := h
  refine ⟨n, ?_⟩
  unfold callFz
  simp only [hn, hf, List.length_nil]
  rw [gc_pure (by simp [hv])]
  simp only [List.map_cons, List.map_nil, hr]
end Go.LS
set_option linter.unusedVariables false
set_option linter.unusedSimpArgs false
namespace Go.LS
inductive Orc where
  | b (c : Bool)
  | op (v : LV) (st : List LObj)
  | call (v : LV) (st : List LObj)
  | lp (out : LOut) (t : List LV) (st : List LObj)
  | lg (out : LOut) (t : List LV) (st : List LObj) (t0 : List LV) (st0 : List LObj)
  | cg (v : LV) (st : List LObj)
abbrev Os := List (Nat × Orc)
def tick : Os → Option Orc × Os
  | (0, o) :: r => (some o, r)
  | (n + 1, o) :: r => (none, (n, o) :: r)
  | [] => (none, [])
def LX.inst (t : List LV) (x : LX) : LX := .const (x.ev t)
def noCall : CallF := ⟨fun _ _ _ => none, fun _ => false⟩
def LOp.inst (t : List LV) : LOp → LOp
  | .mv x => .mv (x.inst t)
  | .pick c a b => .pick (c.inst t) (a.inst t) (b.inst t)
  | .alloc z => .alloc z
  | .box x => .box (x.inst t)
  | .build z ps => .build z (ps.map fun p => (p.1, p.2.1, p.2.2.inst t))
  | .mkrow r s l z ps => .mkrow r s l z (ps.map fun p => (p.1, p.2.inst t))
  | .load a n x => .load a n (x.inst t)
  | .store n x v => .store n (x.inst t) (v.inst t)
  | .nilChk x => .nilChk (x.inst t)
  | .bin o x y => .bin o (x.inst t) (y.inst t)
  | .beq o x y => .beq o (x.inst t) (y.inst t)
  | .peq o x y => .peq o (x.inst t) (y.inst t)
  | .nileq o k x => .nileq o k (x.inst t)
  | .un o x => .un o (x.inst t)
  | .cv k x => .cv k (x.inst t)
  | .fn f cs => .fn f (cs.map (LX.inst t))
  | .fnm f fs cs => .fnm f (fs.map (LX.inst t)) (cs.map (LX.inst t))
  | .clearS z x => .clearS z (x.inst t)
  | .appendR n m a b => .appendR n m (a.inst t) (b.inst t)
  | .iface ty x => .iface ty (x.inst t)
  | .mkmap => .mkmap
  | .mkslice a b z l c => .mkslice a b z (l.inst t) (c.inst t)
  | .sslice x a b c => .sslice (x.inst t) (a.map (LX.inst t)) (b.map (LX.inst t)) (c.map (LX.inst t))
  | .slice n x a b c => .slice n (x.inst t) (a.map (LX.inst t)) (b.map (LX.inst t)) (c.map (LX.inst t))
  | .fieldAddr n x => .fieldAddr n (x.inst t)
  | .field g n m x => .field g n m (x.inst t)
  | .indexAddr n x i => .indexAddr n (x.inst t) (i.inst t)
  | .arrAddr n m x i => .arrAddr n m (x.inst t) (i.inst t)
  | .index x i => .index (x.inst t) (i.inst t)
  | .arrIndex g n m x i => .arrIndex g n m (x.inst t) (i.inst t)
  | .lookup k z o x i => .lookup k z o (x.inst t) (i.inst t)
  | .mapUpdate k a b c => .mapUpdate k (a.inst t) (b.inst t) (c.inst t)
  | .delete k a b => .delete k (a.inst t) (b.inst t)
  | .range x => .range (x.inst t)
  | .next x => .next (x.inst t)
  | .extract x i => .extract (x.inst t) i
  | .call f as => .call f (as.map (LX.inst t))
  | .callv f as => .callv (f.inst t) (as.map (LX.inst t))
  | .callz f as => .callz f (as.map (LX.inst t))
  | .append s n m a b => .append s n m (a.inst t) (b.inst t)
  | .grow n m a b => .grow n m (a.inst t) (b.inst t)
  | .len x => .len (x.inst t)
  | .slen x => .slen (x.inst t)
  | .mlen x => .mlen (x.inst t)
  | .const v => .const v
  | .fail => .fail
  | .seq n l x y => .seq n l (x.inst t) (y.inst t)
  | .retire x => .retire (x.inst t)
  | .cap x => .cap (x.inst t)
  | .mx x y => .mx (x.inst t) (y.inst t)
  | .mn x y => .mn (x.inst t) (y.inst t)
theorem inst_ev (t s : List LV) (x : LX) : (x.inst t).ev s = x.ev t := rfl
theorem inst_evs (t s : List LV) (xs : List LX) : (xs.map (LX.inst t)).map (LX.ev s) = xs.map (LX.ev t) := by rw [List.map_map]; rfl
theorem inst_evo (t s : List LV) (xs : Option LX) : (xs.map (LX.inst t)).map (LX.ev s) = xs.map (LX.ev t) := by cases xs <;> rfl
theorem inst_parts (t s : List LV) : ∀ (ps : List (Nat × Nat × LX)), evParts s (ps.map fun p => (p.1, p.2.1, p.2.2.inst t)) = evParts t ps
  | [] => rfl
  | (a, b, x) :: r => by simp only [List.map_cons, evParts, inst_ev, inst_parts t s r]
theorem inst_row (t s : List LV) : ∀ (ps : List (Nat × LX)), evRow s (ps.map fun p => (p.1, p.2.inst t)) = evRow t ps
  | [] => rfl
  | (a, x) :: r => by simp only [List.map_cons, evRow, inst_ev, inst_row t s r]
theorem opStep_inst (call : CallF) (t s : List LV) (st : List LObj) (op : LOp) : opStep call s st (op.inst t) = opStep call t st op := by
  cases op <;> simp only [LOp.inst, opStep, inst_ev, inst_evs, inst_evo, inst_parts, inst_row]
abbrev OpIs (t : List LV) (st : List LObj) (op : LOp) (v : LV) (st' : List LObj) : Prop := opStep noCall [] st (op.inst t) = some (v, st')
theorem noCall_le (c : CallF) : CallLe noCall c := fun f a s r h => by simp [noCall] at h
theorem OpIs.step {t : List LV} {st st' : List LObj} {op : LOp} {v : LV} (h : OpIs t st op v st') (c : CallF) : opStep c t st op = some (v, st') :=
  opStep_mono (noCall_le c) (by rw [← opStep_inst noCall t []]; exact h)
def callO (lp : LProg) (f : FuncId) (args : List LV) (st : List LObj) (r : LV) (st1 : List LObj) : Option (LV × List LObj × Prop) :=
  let args := wk (lp.weak f) args
  let ids := reach st 100000 (args.flatMap LV.refs) []
  if closed st ids && (args.flatMap LV.refs).all (ids.contains ·) && decide ids.Nodup then
    if ids.length ≤ st1.length then
      let b := back ids st.length
      some (r.ren b, putBack st ids ((st1.take ids.length).map (LObj.ren b)) ++ (st1.drop ids.length).map (LObj.ren b),
        Runs lp f (args.map (LV.ren fun q => ids.idxOf q)) (sub st ids) (r, st1))
    else none
  else none
theorem callO_sound {lp : LProg} {f : FuncId} {args : List LV} {st st1 st' : List LObj} {r v : LV} {p : Prop} (h : callO lp f args st r st1 = some (v, st', p)) (hp : p) :
    ∃ n, ∀ m, n ≤ m → callIso (runF lp m) f args st = some (v, st') := by
  unfold callO at h
  simp only at h
  split at h
  · rename_i hc
    split at h
    · rename_i hl
      cases h
      obtain ⟨n, hn⟩ := Runs.at hp
      refine ⟨n, fun m hm => ?_⟩
      unfold callIso
      simp only
      rw [runF_weak, if_pos hc, hn m hm]
      simp only
      rw [if_pos hl]
    · cases h
  · cases h
def callOz (lp : LProg) (f : FuncId) (args : List LV) (st : List LObj) (r : LV) (st1 : List LObj) : Option (LV × List LObj × Prop) :=
  let args := wk (lp.weak f) args
  let ids := reach st 100000 (args.flatMap LV.refs) []
  if closed st ids && (args.flatMap LV.refs).all (ids.contains ·) && decide ids.Nodup then
    if ids.length ≤ st1.length then
      let b := back ids st.length
      some (r.ren b, putBack st ids ((st1.take ids.length).map (LObj.ren b)) ++ (st1.drop ids.length).map (LObj.ren b),
        RunsZ lp f (args.map (LV.ren fun q => ids.idxOf q)) (sub st ids) (r, st1))
    else none
  else none
theorem callOz_sound {lp : LProg} {f : FuncId} {args : List LV} {st st1 st' : List LObj} {r v : LV} {p : Prop} (h : callOz lp f args st r st1 = some (v, st', p)) (hp : p) :
    ∃ n, ∀ m, n ≤ m → callIso (callFz (runF lp m)) f args st = some (v, st') := by
  unfold callOz at h
  simp only at h
  split at h
  · rename_i hc
    split at h
    · rename_i hl
      cases h
      obtain ⟨n, hn⟩ := RunsZ.at hp
      refine ⟨n, fun m hm => ?_⟩
      unfold callIso
      simp only
      have hw : (callFz (runF lp m)).weak f = lp.weak f := by show (runF lp m).weak f = _; rw [runF_weak]
      rw [hw, if_pos hc, hn m hm]
      simp only
      rw [if_pos hl]
    · cases h
  · cases h
def CallAt (lp : LProg) (f : FuncId) (args : List LV) (st : List LObj) (r : LV × List LObj) : Prop := ∃ n, ∀ m, n ≤ m → callIso (runF lp m) f args st = some r
def gdO (t : List LV) (g : Option (Nat × Bool)) (os : Os) : Option (Bool × List Prop × Os) :=
  match g with
  | none => some (true, [], os)
  | some (j, want) => match tick os with
    | (some (.b c), os') => some (c == want, [t.getD j .und = .p (.bool c)], os')
    | (none, os') => match gd t (some (j, want)) with
      | some b => some (b, [], os')
      | none => none
    | _ => none
abbrev AllP (ps : List Prop) : Prop := ∀ p ∈ ps, p
theorem gdO_sound {t : List LV} {g : Option (Nat × Bool)} {os os' : Os} {b : Bool} {ps : List Prop} (h : gdO t g os = some (b, ps, os')) (hp : AllP ps) : gd t g = some b := by
  unfold gdO at h
  split at h
  · cases h; rfl
  · split at h
    · cases h
      have := hp _ (List.mem_singleton.2 rfl)
      simp only [gd, this]
    · split at h
      · cases h; assumption
      · cases h
    · cases h
def stepO (lp : LProg) (t : List LV) (st : List LObj) (op : LOp) (os : Os) : Option (LV × List LObj × List Prop × Os) :=
  match tick os with
  | (none, os') => match opStep noCall t st op with
    | some (v, st') => some (v, st', [], os')
    | none => none
  | (some (.op v st'), os') => some (v, st', [OpIs t st op v st'], os')
  | (some (.call r st1), os') => match op with
    | .call f args => match callO lp f (args.map (LX.ev t)) st r st1 with
      | some (v, st', p) => some (v, st', [p], os')
      | none => none
    | .callz f args => match callOz lp f (args.map (LX.ev t)) st r st1 with
      | some (v, st', p) => some (v, st', [p], os')
      | none => none
    | .callv f args => match f.ev t with
      | .fn (.func g) first captured => match callO lp g (first ++ args.map (LX.ev t) ++ captured) st r st1 with
        | some (v, st', p) => some (v, st', [p], os')
        | none => none
      | _ => none
    | _ => none
  | (some (.cg v st'), os') => match op with
    | .call f args => some (v, st', [CallAt lp f (args.map (LX.ev t)) st (v, st')], os')
    | .callv f args => match f.ev t with
      | .fn (.func g) first captured => some (v, st', [CallAt lp g (first ++ args.map (LX.ev t) ++ captured) st (v, st')], os')
      | _ => none
    | _ => none
  | (some (.b c), os') => match op with
    | .pick x a b => some (if c then a.ev t else b.ev t, st, [x.ev t = .p (.bool c)], os')
    | _ => none
  | _ => none
theorem stepO_sound {lp : LProg} {t : List LV} {st st' : List LObj} {op : LOp} {os os' : Os} {v : LV} {ps : List Prop} (h : stepO lp t st op os = some (v, st', ps, os')) (hp : AllP ps) :
    ∃ n, ∀ m, n ≤ m → opStep (runF lp m) t st op = some (v, st') := by
  unfold stepO at h
  split at h
  · split at h <;> cases h
    exact ⟨0, fun m _ => opStep_mono (noCall_le _) ‹_›⟩
  · cases h
    have := hp _ (List.mem_singleton.2 rfl)
    exact ⟨0, fun m _ => OpIs.step this _⟩
  · split at h
    · split at h <;> cases h
      exact callO_sound ‹_› (hp _ (List.mem_singleton.2 rfl))
    · split at h <;> cases h
      exact callOz_sound ‹_› (hp _ (List.mem_singleton.2 rfl))
    · split at h
      · rename_i hf
        split at h <;> cases h
        obtain ⟨n, hn⟩ := callO_sound ‹_› (hp _ (List.mem_singleton.2 rfl))
        exact ⟨n, fun m hm => by simp only [opStep, hf]; exact hn m hm⟩
      · cases h
    · cases h
  · split at h
    · cases h
      exact hp _ (List.mem_singleton.2 rfl)
    · split at h
      · rename_i hf
        cases h
        obtain ⟨n, hn⟩ := hp _ (List.mem_singleton.2 rfl)
        exact ⟨n, fun m hm => by simp only [opStep, hf]; exact hn m hm⟩
      · cases h
    · cases h
  · split at h
    · cases h
      have := hp _ (List.mem_singleton.2 rfl)
      exact ⟨0, fun m _ => by simp only [opStep, this]⟩
    · cases h
  · cases h
def operO (lp : LProg) (t : List LV) (st : List LObj) (o : LOper) (os : Os) : Option (LV × List LObj × List Prop × Os × Bool) :=
  match gdO t o.guard os with
  | some (true, ps, os1) => match stepO lp t st o.op os1 with
    | some (v, st', qs, os2) => some (v, st', ps ++ qs, os2, true)
    | none => none
  | some (false, ps, os1) => some (.tup [], st, ps, os1, false)
  | none => none
theorem allP_append {ps qs : List Prop} (h : AllP (ps ++ qs)) : AllP ps ∧ AllP qs := ⟨fun p hp => h p (List.mem_append_left _ hp), fun p hp => h p (List.mem_append_right _ hp)⟩
theorem operO_sound {lp : LProg} {t : List LV} {st st' : List LObj} {o : LOper} {os os' : Os} {v : LV} {ps : List Prop} {d : Bool} (h : operO lp t st o os = some (v, st', ps, os', d)) (hp : AllP ps) :
    gd t o.guard = some d ∧ ∃ n, ∀ m, n ≤ m → runOp (runF lp m) t st o = some (v, st') := by
  unfold operO at h
  split at h
  · rename_i ps1 os1 hg
    split at h
    · rename_i v' st1 qs os2 hs
      cases h
      obtain ⟨h1, h2⟩ := allP_append hp
      obtain ⟨n, hn⟩ := stepO_sound hs h2
      have := gdO_sound hg h1
      exact ⟨this, n, fun m hm => by unfold runOp; rw [this]; exact hn m hm⟩
    · cases h
  · rename_i ps1 os1 hg
    cases h
    have := gdO_sound hg hp
    exact ⟨this, 0, fun m _ => by unfold runOp; rw [this]⟩
  · cases h
def opsO (lp : LProg) : List LOper → List LV → List LObj → Os → Option (List LV × List LObj × List Prop × Os)
  | [], t, st, os => some (t, st, [], os)
  | o :: r, t, st, os => match operO lp t st o os with
    | some (v, st', ps, os', _) => match opsO lp r (putT t o.dst v) st' os' with
      | some (t', st'', qs, os'') => some (t', st'', ps ++ qs, os'')
      | none => none
    | none => none
theorem opsO_sound {lp : LProg} : ∀ {l : List LOper} {t t' : List LV} {st st' : List LObj} {os os' : Os} {ps : List Prop}, opsO lp l t st os = some (t', st', ps, os') → AllP ps →
    ∃ n, ∀ m, n ≤ m → runOps (runF lp m) l t st = some (t', st')
  | [], t, t', st, st', os, os', ps, h, _ => by simp only [opsO] at h; cases h; exact ⟨0, fun m _ => rfl⟩
  | o :: r, t, t', st, st', os, os', ps, h, hp => by
    simp only [opsO] at h
    split at h
    · rename_i v st1 ps1 os1 d hs
      split at h
      · rename_i t2 st2 qs os2 hr
        cases h
        obtain ⟨h1, h2⟩ := allP_append hp
        obtain ⟨_, n, hn⟩ := operO_sound hs h1
        obtain ⟨k, hk⟩ := opsO_sound hr h2
        exact ⟨max n k, fun m hm => by simp only [runOps, hn m (by omega)]; exact hk m (by omega)⟩
      · cases h
    · cases h
def heldP (st : List LObj) (held : List (DOp × List LV × LV)) : List Prop := held.map fun x => OpIs x.2.1 st x.1.op.op x.2.2 st
theorem heldP_sound {lp : LProg} {m : Nat} {st : List LObj} {held : List (DOp × List LV × LV)} (h : AllP (heldP st held)) (hg : ∀ x ∈ held, gd x.2.1 x.1.op.guard = some true) : heldOk (runF lp m) st held = true := by
  unfold heldOk
  rw [List.all_eq_true]
  intro x hx
  have := h _ (List.mem_map.2 ⟨x, hx, rfl⟩)
  unfold runOp
  rw [hg x hx]
  simp only [OpIs.step this, LV.eqb_refl]
def drawnO (lp : LProg) : List DOp → List (DOp × List LV × LV) → List LV → List LObj → Os → Option (List LV × List LObj × List Prop × Os)
  | [], _, t, st, os => some (t, st, [], os)
  | d :: r, held, t, st, os => match operO lp t st d.op os with
    | none => none
    | some (v, st', ps, os', done) =>
      match d.cls with
      | .h => if pureV d.op.op v then
          match drawnO lp r (if statB t d.op.op || !done then held else (d, t, v) :: held) (putT t d.op.dst v) st' os' with
          | some (t', st'', qs, os'') => some (t', st'', ps ++ qs, os'')
          | none => none
        else none
      | .a => if newOk st st' then
          match drawnO lp r held (putT t d.op.dst v) st' os' with
          | some (t', st'', qs, os'') => some (t', st'', ps ++ heldP st' held ++ qs, os'')
          | none => none
        else none
      | .c => if decide (st.length ≤ st'.length) then
          match drawnO lp r (held.filter fun x => !d.must.contains x.1.idx) (putT t d.op.dst v) st' os' with
          | some (t', st'', qs, os'') => some (t', st'', ps ++ heldP st' (held.filter fun x => !d.must.contains x.1.idx) ++ qs, os'')
          | none => none
        else none
abbrev HeldSub (held heldO : List (DOp × List LV × LV)) : Prop := ∀ x ∈ held, x ∈ heldO ∨ (gd x.2.1 x.1.op.guard = some false ∧ x.2.2 = .tup [])
theorem heldSub_ok {lp : LProg} {m : Nat} {st : List LObj} {held heldO : List (DOp × List LV × LV)} (hs : HeldSub held heldO) (h : AllP (heldP st heldO)) (hg : ∀ x ∈ heldO, gd x.2.1 x.1.op.guard = some true) :
    heldOk (runF lp m) st held = true := by
  unfold heldOk
  rw [List.all_eq_true]
  intro x hx
  rcases hs x hx with hx | ⟨h1, h2⟩
  · have := List.all_eq_true.1 (heldP_sound (lp := lp) (m := m) h hg) x hx
    exact this
  · unfold runOp
    rw [h1, h2]
    rfl
theorem drawnO_sound {lp : LProg} : ∀ {l : List DOp} {heldO : List (DOp × List LV × LV)} {t t' : List LV} {st st' : List LObj} {os os' : Os} {ps : List Prop}, drawnO lp l heldO t st os = some (t', st', ps, os') → AllP ps →
    (∀ x ∈ heldO, gd x.2.1 x.1.op.guard = some true) → ∃ n, ∀ m, n ≤ m → ∀ held, HeldSub held heldO → runDrawn (runF lp m) l held t st = some (t', st')
  | [], heldO, t, t', st, st', os, os', ps, h, _, _ => by simp only [drawnO] at h; cases h; exact ⟨0, fun m _ held _ => rfl⟩
  | d :: r, heldO, t, t', st, st', os, os', ps, h, hp, hg => by
    simp only [drawnO] at h
    split at h
    · cases h
    · rename_i v st1 ps1 os1 done hs
      split at h
      · rename_i hc
        split at h
        · rename_i hpv
          split at h
          · rename_i t2 st2 qs os2 hr
            cases h
            obtain ⟨h1, h2⟩ := allP_append hp
            obtain ⟨hgd, n, hn⟩ := operO_sound hs h1
            obtain ⟨k, hk⟩ := drawnO_sound hr h2 (fun x hx => by
              split at hx
              · exact hg x hx
              · rename_i hst
                rcases List.mem_cons.1 hx with rfl | hx
                · have : done = true := by cases done <;> simp_all
                  rw [this] at hgd; exact hgd
                · exact hg x hx)
            refine ⟨max n k, fun m hm held hsub => ?_⟩
            simp only [runDrawn, hn m (by omega), hc]
            rw [if_pos hpv]
            refine hk m (by omega) _ (fun x hx => ?_)
            split at hx
            · rename_i hst
              rw [if_pos (by simp [hst])]
              exact hsub x hx
            · rename_i hst
              rcases List.mem_cons.1 hx with rfl | hx
              · cases hdn : done with
                | true => rw [if_neg (by simp [hst])]; exact .inl (by simp)
                | false =>
                  rw [hdn] at hgd
                  refine .inr ⟨hgd, ?_⟩
                  have := hn n (Nat.le_refl _)
                  unfold runOp at this
                  rw [hgd] at this
                  cases this; rfl
              · rcases hsub x hx with h | h
                · refine .inl ?_
                  split
                  · exact h
                  · exact List.mem_cons_of_mem _ h
                · exact .inr h
          · cases h
        · cases h
      · rename_i hc
        split at h
        · rename_i hnew
          split at h
          · rename_i t2 st2 qs os2 hr
            cases h
            obtain ⟨h12, h3⟩ := allP_append hp
            obtain ⟨h1, h2⟩ := allP_append h12
            obtain ⟨hgd, n, hn⟩ := operO_sound hs h1
            obtain ⟨k, hk⟩ := drawnO_sound hr h3 hg
            refine ⟨max n k, fun m hm held hsub => ?_⟩
            simp only [runDrawn, hn m (by omega), hc]
            rw [if_pos (by simp only [Bool.and_eq_true]; exact ⟨hnew, heldSub_ok hsub h2 hg⟩)]
            exact hk m (by omega) _ hsub
          · cases h
        · cases h
      · rename_i hc
        split at h
        · rename_i hlen
          split at h
          · rename_i t2 st2 qs os2 hr
            cases h
            obtain ⟨h12, h3⟩ := allP_append hp
            obtain ⟨h1, h2⟩ := allP_append h12
            obtain ⟨hgd, n, hn⟩ := operO_sound hs h1
            have hg' : ∀ x ∈ heldO.filter (fun x => !d.must.contains x.1.idx), gd x.2.1 x.1.op.guard = some true := fun x hx => hg x (List.mem_filter.1 hx).1
            obtain ⟨k, hk⟩ := drawnO_sound hr h3 hg'
            refine ⟨max n k, fun m hm held hsub => ?_⟩
            have hsub' : HeldSub (held.filter fun x => !d.must.contains x.1.idx) (heldO.filter fun x => !d.must.contains x.1.idx) := by
              intro x hx
              obtain ⟨a, b⟩ := List.mem_filter.1 hx
              rcases hsub x a with h | h
              · exact .inl (List.mem_filter.2 ⟨h, b⟩)
              · exact .inr h
            simp only [runDrawn, hn m (by omega), hc]
            rw [if_pos (by simp only [Bool.and_eq_true]; exact ⟨hlen, heldSub_ok hsub' h2 hg'⟩)]
            exact hk m (by omega) _ hsub'
          · cases h
        · cases h
def LoopAt (lp : LProg) (k : Nat) (mask : List Bool) (c : LCode) (t : List LV) (st : List LObj) (r : LOut × List LV × List LObj) : Prop :=
  ∃ n, (match exec (runF lp n) k n c t st with
    | some (.normal, t', st') => exec (runF lp n) k n (.loop mask c) t' st'
    | r => r) = some r
def execO (lp : LProg) (k : Nat) : Nat → LCode → List LV → List LObj → Os → Option (LOut × List LV × List LObj × List Prop × Os)
  | 0, _, _, _, _ => none
  | n + 1, c, t, st, os => match c with
    | .skip => some (.normal, t, st, [], os)
    | .region ops => match opsO lp ops t st os with
      | some (t', st', ps, os') => some (.normal, t', st', ps, os')
      | none => none
    | .drawn ops => match drawnO lp ops [] t st os with
      | some (t', st', ps, os') => some (.normal, t', st', ps, os')
      | none => none
    | .seq a b => match execO lp k n a t st os with
      | some (.normal, t', st', ps, os') => (match execO lp k n b t' st' os' with
        | some (o, t'', st'', qs, os'') => some (o, t'', st'', ps ++ qs, os'')
        | none => none)
      | r => r
    | .cond x a b => match tick os with
      | (some (.b c), os') => (match execO lp k n (if c then a else b) t st os' with
        | some (o, t', st', ps, os'') => some (o, t', st', (x.ev t = .p (.bool c)) :: ps, os'')
        | none => none)
      | (none, os') => (match x.ev t with
        | .p (.bool true) => execO lp k n a t st os'
        | .p (.bool false) => execO lp k n b t st os'
        | _ => none)
      | _ => none
    | .both x a b c => execO lp k n (.seq (.cond x a b) c) t st os
    | .block id mask c => match execO lp k n c t st os with
      | some (.exit i, t', st', ps, os') => if i = id then some (.normal, kill mask t', st', ps, os') else some (.exit i, t', st', ps, os')
      | some (.normal, t', st', ps, os') => some (.normal, kill mask t', st', ps, os')
      | r => r
    | .loop mask c => match tick os with
      | (some (.lp out t' st'), os') => (match gc k (kill mask t) st with
        | some (t0, st0) => some (out, t', st', [LoopAt lp k mask c t0 st0 (out, t', st')], os')
        | none => none)
      | (some (.lg out t' st' t0 st0), os') => some (out, t', st', [gc k (kill mask t) st = some (t0, st0), LoopAt lp k mask c t0 st0 (out, t', st')], os')
      | _ => none
    | .exit id mask => some (.exit id, kill mask t, st, [], os)
    | .ret mask => some (.ret, kill mask t, st, [], os)
    | .fail => none
theorem exec_both {c : CallF} {k m : Nat} {x : LX} {a b d : LCode} {t : List LV} {st : List LObj} {r : LOut × List LV × List LObj} (h : exec c k m (.seq (.cond x a b) d) t st = some r) : exec c k (m + 1) (.both x a b d) t st = some r := by
  cases m with
  | zero => simp [exec] at h
  | succ m =>
    cases m with
    | zero => simp [exec, cont2] at h
    | succ m =>
      show (match x.ev t with
        | .p (.bool true) => cont2 (exec c k (m + 1 + 1) a t st) (exec c k (m + 1 + 1) d)
        | .p (.bool false) => cont2 (exec c k (m + 1 + 1) b t st) (exec c k (m + 1 + 1) d)
        | .anyb => both (cont2 (exec c k (m + 1 + 1) a t st) (exec c k (m + 1 + 1) d)) (cont2 (exec c k (m + 1 + 1) b t st) (exec c k (m + 1 + 1) d))
        | _ => none) = some r
      replace h : cont2 (match x.ev t with
        | .p (.bool true) => exec c k m a t st
        | .p (.bool false) => exec c k m b t st
        | .anyb => both (exec c k m a t st) (exec c k m b t st)
        | _ => none) (exec c k (m + 1) d) = some r := h
      have up : ∀ {lz : LCode} {y}, exec c k m lz t st = some y → cont2 (some y) (exec c k (m + 1) d) = some r → cont2 (exec c k (m + 1 + 1) lz t st) (exec c k (m + 1 + 1) d) = some r := by
        intro lz y h1 h2
        rw [exec_mono (fun _ _ _ _ h => ⟨h, rfl⟩) (show m ≤ m + 1 + 1 by omega) h1]
        obtain ⟨o, t', st'⟩ := y
        cases o with
        | normal => exact exec_mono (fun _ _ _ _ h => ⟨h, rfl⟩) (show m + 1 ≤ m + 1 + 1 by omega) h2
        | _ => exact h2
      split at h
      · rename_i hx
        cases he : exec c k m a t st with
        | none => rw [he] at h; cases h
        | some y => rw [he] at h; (try simp only [hx]); exact up he h
      · rename_i hx
        cases he : exec c k m b t st with
        | none => rw [he] at h; cases h
        | some y => rw [he] at h; (try simp only [hx]); exact up he h
      · rename_i hx
        cases hb : both (exec c k m a t st) (exec c k m b t st) with
        | none => rw [hb] at h; cases h
        | some y =>
          rw [hb] at h
          obtain ⟨e1, e2⟩ := both_eq hb
          try simp only [hx]
          rw [up e1 h, up e2 h]
          exact both_same r
      · cases h
theorem execO_sound {lp : LProg} {k : Nat} : ∀ {n : Nat} {c : LCode} {t t' : List LV} {st st' : List LObj} {os os' : Os} {ps : List Prop} {o : LOut}, execO lp k n c t st os = some (o, t', st', ps, os') → AllP ps →
    Exec lp k c t st (o, t', st')
  | 0, c, t, t', st, st', os, os', ps, o, h, _ => by simp [execO] at h
  | n + 1, c, t, t', st, st', os, os', ps, o, h, hp => by
    cases c with
    | skip => simp only [execO] at h; cases h; exact ⟨1, rfl⟩
    | exit id mask => simp only [execO] at h; cases h; exact ⟨1, rfl⟩
    | ret mask => simp only [execO] at h; cases h; exact ⟨1, rfl⟩
    | fail => simp [execO] at h
    | region ops =>
      simp only [execO] at h
      split at h
      · rename_i t1 st1 ps1 os1 hs
        cases h
        obtain ⟨m, hm⟩ := opsO_sound hs hp
        exact ⟨m + 1, by simp only [exec]; rw [hm (m + 1) (by omega)]⟩
      · cases h
    | drawn ops =>
      simp only [execO] at h
      split at h
      · rename_i t1 st1 ps1 os1 hs
        cases h
        obtain ⟨m, hm⟩ := drawnO_sound hs hp (by simp)
        exact ⟨m + 1, by simp only [exec]; rw [hm (m + 1) (by omega) [] (by simp)]⟩
      · cases h
    | seq a b =>
      simp only [execO] at h
      split at h
      · rename_i t1 st1 ps1 os1 hs
        split at h
        · rename_i o2 t2 st2 ps2 os2 hs2
          cases h
          obtain ⟨h1, h2⟩ := allP_append hp
          obtain ⟨m1, e1⟩ := (execO_sound hs h1).at
          obtain ⟨m2, e2⟩ := (execO_sound hs2 h2).at
          refine ⟨max m1 m2 + 1, ?_⟩
          simp only [exec, cont2]
          rw [exec_mono (runF_mono (by omega)) (Nat.le_refl _) (e1 (max m1 m2) (by omega))]
          exact exec_mono (runF_mono (by omega)) (Nat.le_refl _) (e2 (max m1 m2) (by omega))
        · cases h
      · rename_i r hne
        cases ha : execO lp k n a t st os with
        | none => rw [ha] at h; cases h
        | some x =>
          obtain ⟨o1, t1, st1, ps1, os1⟩ := x
          rw [ha] at h
          cases h
          obtain ⟨m, e⟩ := (execO_sound ha hp).at
          refine ⟨m + 1, ?_⟩
          simp only [exec, cont2]
          rw [exec_mono (runF_mono (by omega)) (Nat.le_refl _) (e m (Nat.le_refl _))]
          cases o with
          | normal => exact absurd ha (hne _ _ _ _)
          | _ => rfl
    | cond x a b =>
      simp only [execO] at h
      split at h
      · rename_i c os1 _
        split at h
        · rename_i o1 t1 st1 ps1 os2 hs
          cases h
          have hx := hp _ (List.mem_cons_self ..)
          obtain ⟨m, e⟩ := (execO_sound hs (fun p hm => hp p (List.mem_cons_of_mem _ hm))).at
          refine ⟨m + 1, ?_⟩
          simp only [exec, hx]
          have := exec_mono (runF_mono (lp := lp) (show m ≤ m + 1 by omega)) (Nat.le_refl _) (e m (Nat.le_refl _))
          cases c <;> exact this
        · cases h
      · split at h
        · rename_i hx
          obtain ⟨m, e⟩ := (execO_sound h hp).at
          refine ⟨m + 1, ?_⟩
          simp only [exec, hx]
          exact exec_mono (runF_mono (by omega)) (Nat.le_refl _) (e m (Nat.le_refl _))
        · rename_i hx
          obtain ⟨m, e⟩ := (execO_sound h hp).at
          refine ⟨m + 1, ?_⟩
          simp only [exec, hx]
          exact exec_mono (runF_mono (by omega)) (Nat.le_refl _) (e m (Nat.le_refl _))
        · cases h
      · cases h
    | both x a b d =>
      simp only [execO] at h
      obtain ⟨m, e⟩ := (execO_sound h hp).at
      exact ⟨m + 1, exec_mono (runF_mono (by omega)) (Nat.le_refl _) (exec_both (e m (Nat.le_refl _)))⟩
    | block id mask a =>
      simp only [execO] at h
      have go : ∀ {o1 t1 st1 ps1 os1}, execO lp k n a t st os = some (o1, t1, st1, ps1, os1) → AllP ps1 → ∃ m, exec (runF lp (m + 1)) k m a t st = some (o1, t1, st1) := by
        intro o1 t1 st1 ps1 os1 hs hp1
        obtain ⟨m, e⟩ := (execO_sound hs hp1).at
        exact ⟨m, exec_mono (runF_mono (by omega)) (Nat.le_refl _) (e m (Nat.le_refl _))⟩
      split at h
      · rename_i i t1 st1 ps1 os1 hs
        split at h
        · rename_i hi
          cases h
          obtain ⟨m, e⟩ := go hs hp
          exact ⟨m + 1, by simp only [exec, e]; rw [if_pos hi]⟩
        · rename_i hi
          cases h
          obtain ⟨m, e⟩ := go hs hp
          exact ⟨m + 1, by simp only [exec, e]; rw [if_neg hi]⟩
      · rename_i t1 st1 ps1 os1 hs
        cases h
        obtain ⟨m, e⟩ := go hs hp
        exact ⟨m + 1, by simp only [exec, e]⟩
      · rename_i r hne1 hne2
        cases ha : execO lp k n a t st os with
        | none => rw [ha] at h; cases h
        | some x =>
          obtain ⟨o1, t1, st1, ps1, os1⟩ := x
          rw [ha] at h
          cases h
          obtain ⟨m, e⟩ := go ha hp
          refine ⟨m + 1, ?_⟩
          simp only [exec, e]
          cases o with
          | normal => exact absurd ha (hne2 _ _ _ _)
          | exit i => exact absurd ha (hne1 _ _ _ _ _)
          | ret => rfl
    | loop mask a =>
      simp only [execO] at h
      split at h
      · rename_i out t1 st1 os1 _
        split at h
        · rename_i t0 st0 hg
          cases h
          obtain ⟨m, hm⟩ := hp _ (List.mem_singleton.2 rfl)
          refine ⟨m + 1, ?_⟩
          simp only [exec, hg]
          cases he : exec (runF lp m) k m a t0 st0 with
          | none => rw [he] at hm; cases hm
          | some x =>
            obtain ⟨o2, t2, st2⟩ := x
            rw [he] at hm
            rw [exec_mono (runF_mono (show m ≤ m + 1 by omega)) (Nat.le_refl _) he]
            cases o2 with
            | normal => exact exec_mono (runF_mono (by omega)) (Nat.le_refl _) hm
            | _ => exact hm
        · cases h
      · cases h
        have hg := hp _ (List.mem_cons_self ..)
        rename_i t0 st0 _
        obtain ⟨m, hm⟩ := hp _ (List.mem_cons_of_mem _ (List.mem_singleton.2 rfl))
        refine ⟨m + 1, ?_⟩
        simp only [exec, hg]
        cases he : exec (runF lp m) k m a t0 st0 with
        | none => rw [he] at hm; cases hm
        | some x =>
          obtain ⟨o2, t2, st2⟩ := x
          rw [he] at hm
          rw [exec_mono (runF_mono (show m ≤ m + 1 by omega)) (Nat.le_refl _) he]
          cases o2 with
          | normal => exact exec_mono (runF_mono (by omega)) (Nat.le_refl _) hm
          | _ => exact hm
      · cases h
end Go.LS
set_option linter.unusedVariables false
set_option linter.unusedSimpArgs false
namespace Go.LS
def Conj : List Prop → Prop
  | [] => True
  | p :: r => p ∧ Conj r
theorem Conj.all : ∀ {ps : List Prop}, Conj ps → AllP ps
  | [], _, p, hp => by cases hp
  | q :: r, h, p, hp => by
    rcases List.mem_cons.1 hp with rfl | hp
    · exact h.1
    · exact h.2.all p hp
def runO (lp : LProg) (N : Nat) (f : FuncId) (args : List LV) (st : List LObj) (os : Os) : Option (LV × List LObj × List Prop) :=
  match lp.summ f with
  | some _ => none
  | none => match lp.fns f with
    | none => none
    | some lf => match execO lp st.length N lf.body (wk (lp.weak f) args ++ List.replicate (lf.ntmps - args.length) .und) st os with
      | some (.exit _, _, _, _, _) => none
      | some (_, t', st', ps, _) => match evRes t' st' lf.results with
        | some vs => match frz (lp.wres f) st' vs with
          | (vs, st') => (match gc st.length vs st' with
            | some (vs', st'') => some (oneRes vs', st'', ps)
            | none => none)
        | none => none
      | none => none
theorem runO_sound {lp : LProg} {N : Nat} {f : FuncId} {args : List LV} {st st' : List LObj} {os : Os} {v : LV} {ps : List Prop} (h : runO lp N f args st os = some (v, st', ps)) (hp : Conj ps) : Runs lp f args st (v, st') := by
  unfold runO at h
  split at h
  · cases h
  · rename_i hsm
    split at h
    · cases h
    · rename_i lf hlf
      split at h
      · cases h
      · rename_i out t1 st1 ps1 os1 hne hex
        split at h
        · rename_i vs hvs
          dsimp only at h
          split at h
          · rename_i vs' st2 hgc
            simp only [Option.some.injEq, Prod.mk.injEq] at h
            obtain ⟨rfl, rfl, rfl⟩ := h
            obtain ⟨n, hn⟩ := execO_sound hex hp.all
            refine ⟨n + 1, ?_⟩
            simp only [runF, hsm, hlf, hn]
            cases out with
            | exit i => exact (hne i rfl).elim
            | normal => simp only [hvs, hgc]
            | ret => simp only [hvs, hgc]
          · cases h
        · cases h
      · cases h
def roundO (lp : LProg) (N k : Nat) (mask : List Bool) (c : LCode) (t : List LV) (st : List LObj) (os : Os) : Option (LOut × List LV × List LObj × List Prop) :=
  match execO lp k N c t st os with
  | some (.normal, t', st', ps, _) => match gc k (kill mask t') st' with
    | some (t'', st'') => some (.normal, t'', st'', ps)
    | none => none
  | some (o, t', st', ps, _) => some (o, t', st', ps)
  | none => none
theorem LoopAt.on {lp : LProg} {N k : Nat} {mask : List Bool} {c : LCode} {t t' : List LV} {st st' : List LObj} {os : Os} {ps : List Prop} {r : LOut × List LV × List LObj}
    (h : roundO lp N k mask c t st os = some (.normal, t', st', ps)) (hp : Conj ps) (hr : LoopAt lp k mask c t' st' r) : LoopAt lp k mask c t st r := by
  unfold roundO at h
  split at h
  · rename_i t1 st1 ps1 os1 hex
    split at h
    · rename_i t2 st2 hg
      simp only [Option.some.injEq, Prod.mk.injEq, true_and] at h
      obtain ⟨rfl, rfl, rfl⟩ := h
      obtain ⟨n, hn⟩ := (execO_sound hex hp.all).at
      obtain ⟨m, hm⟩ := hr
      refine ⟨max n m + 1, ?_⟩
      rw [hn (max n m + 1) (by omega)]
      simp only [exec, hg]
      cases he : exec (runF lp m) k m c t2 st2 with
      | none => rw [he] at hm; cases hm
      | some x =>
        obtain ⟨o2, t3, st3⟩ := x
        rw [he] at hm
        rw [exec_mono (runF_mono (show m ≤ max n m + 1 by omega)) (show m ≤ max n m by omega) he]
        cases o2 with
        | normal => exact exec_mono (runF_mono (by omega)) (by omega) hm
        | _ => exact hm
    · cases h
  · rename_i hne hex
    simp only [Option.some.injEq, Prod.mk.injEq] at h
    obtain ⟨rfl, rfl, rfl, rfl⟩ := h
    exact (hne rfl).elim
  · cases h
theorem LoopAt.out {lp : LProg} {N k : Nat} {mask : List Bool} {c : LCode} {t t' : List LV} {st st' : List LObj} {os : Os} {ps : List Prop} {o : LOut}
    (h : roundO lp N k mask c t st os = some (o, t', st', ps)) (ho : (match o with | .normal => false | _ => true) = true) (hp : Conj ps) : LoopAt lp k mask c t st (o, t', st') := by
  unfold roundO at h
  split at h
  · split at h
    · cases h; cases ho
    · cases h
  · rename_i o1 t1 st1 ps1 os1 hne hex
    simp only [Option.some.injEq, Prod.mk.injEq] at h
    obtain ⟨rfl, rfl, rfl, rfl⟩ := h
    obtain ⟨n, hn⟩ := execO_sound hex hp.all
    refine ⟨n, ?_⟩
    rw [hn]
    cases o1 with
    | normal => cases ho
    | _ => rfl
  · cases h
def loopsOf : LCode → List (List Bool × LCode)
  | .seq a b => loopsOf a ++ loopsOf b
  | .cond _ a b => loopsOf a ++ loopsOf b
  | .both _ a b c => loopsOf a ++ loopsOf b ++ loopsOf c
  | .block _ _ c => loopsOf c
  | .loop m c => (m, c) :: loopsOf c
  | _ => []
def loopNo (lf : LFn) (i : Nat) : List Bool × LCode := (loopsOf lf.body).getD i ([], .skip)
def tl (i : Nat) : Nat → List (Nat × LV) → List LV
  | 0, _ => []
  | n + 1, [] => .und :: tl (i + 1) n []
  | n + 1, (j, v) :: r => match Nat.beq i j with
    | true => v :: tl (i + 1) n r
    | false => .und :: tl (i + 1) n ((j, v) :: r)
abbrev OpW (st : List LObj) (op : LOp) (v : LV) (st' : List LObj) : Prop := opStep noCall [] st op = some (v, st')
abbrev LoopN (lp : LProg) (k : Nat) (x : List Bool × LCode) (t : List LV) (st : List LObj) (r : LOut × List LV × List LObj) : Prop := LoopAt lp k x.1 x.2 t st r
def oO {st st' : List LObj} {op : LOp} {v : LV} (_ : OpW st op v st') : Orc := .op v st'
def oC {lp : LProg} {f : Nat} {as : List LV} {st st' : List LObj} {v : LV} (_ : Runs lp f as st (v, st')) : Orc := .call v st'
def oZ {lp : LProg} {f : Nat} {as : List LV} {st st' : List LObj} {v : LV} (_ : RunsZ lp f as st (v, st')) : Orc := .call v st'
def oL {lp : LProg} {k : Nat} {x : List Bool × LCode} {t t' : List LV} {st st' : List LObj} {o : LOut} (_ : LoopN lp k x t st (o, t', st')) : Orc := .lp o t' st'
theorem cI {b c : Bool} (h : b = c) : LV.p (PV.bool b) = .p (.bool c) := congrArg (fun b => LV.p (PV.bool b)) h
theorem iteT {lp : LProg} {f : FuncId} {a : List LV} {s : List LObj} {c : Bool} {x y : LV × List LObj} (h : Runs lp f a s (if c = true then x else y)) (hc : c = true) : Runs lp f a s x := by rwa [if_pos hc] at h
theorem iteF {lp : LProg} {f : FuncId} {a : List LV} {s : List LObj} {c : Bool} {x y : LV × List LObj} (h : Runs lp f a s (if c = true then x else y)) (hc : c = false) : Runs lp f a s y := by rwa [if_neg (by simp [hc])] at h
theorem infE {k a b : Int} {r : Bool} (h : (k == a) = true) (g : (a == b) = r) : (k == b) = r := by rw [eq_of_beq h]; exact g
theorem infL {k a b : Int} {r : Bool} (h : (k == a) = true) (g : decide (a < b) = r) : decide (k < b) = r := by rw [eq_of_beq h]; exact g
theorem infLe {k a b : Int} {r : Bool} (h : (k == a) = true) (g : decide (a ≤ b) = r) : decide (k ≤ b) = r := by rw [eq_of_beq h]; exact g
theorem infG {k a b : Int} {r : Bool} (h : (k == a) = true) (g : decide (a > b) = r) : decide (k > b) = r := by rw [eq_of_beq h]; exact g
theorem infGe {k a b : Int} {r : Bool} (h : (k == a) = true) (g : decide (a ≥ b) = r) : decide (k ≥ b) = r := by rw [eq_of_beq h]; exact g
theorem notI {b c : Bool} (h : b = c) : (!b) = !c := by rw [h]
end Go.LS
namespace Go.LS
def runE (lp : LProg) (N : Nat) (f : FuncId) (args : List LV) (st : List LObj) (os : Os) : Option (List LV × List LObj × List Prop) :=
  match lp.summ f with
  | some _ => none
  | none => match lp.fns f with
    | none => none
    | some lf => match execO lp st.length N lf.body (wk (lp.weak f) args ++ List.replicate (lf.ntmps - args.length) .und) st os with
      | some (.exit _, _, _, _, _) => none
      | some (_, t', st', ps, _) => match evRes t' st' lf.results with
        | some vs => some (vs, st', ps)
        | none => none
      | none => none
theorem runE_sound {lp : LProg} {N : Nat} {f : FuncId} {args : List LV} {st st1 s1 st2 : List LObj} {os : Os} {vs vs1 vs2 : List LV} {ps : List Prop} (h : runE lp N f args st os = some (vs, st1, ps)) (hp : Conj ps)
    (hf : frz (lp.wres f) st1 vs = (vs1, s1)) (hg : gc st.length vs1 s1 = some (vs2, st2)) : Runs lp f args st (oneRes vs2, st2) := by
  unfold runE at h
  split at h
  · cases h
  · rename_i hsm
    split at h
    · cases h
    · rename_i lf hlf
      split at h
      · cases h
      · rename_i out t1 st1' ps1 os1 hne hex
        split at h
        · rename_i vs' hvs
          simp only [Option.some.injEq, Prod.mk.injEq] at h
          obtain ⟨rfl, rfl, rfl⟩ := h
          obtain ⟨n, hn⟩ := execO_sound hex hp.all
          refine ⟨n + 1, ?_⟩
          simp only [runF, hsm, hlf, hn]
          cases out with
          | exit i => exact (hne i rfl).elim
          | normal => simp only [hvs, hf, hg]
          | ret => simp only [hvs, hf, hg]
        · cases h
      · cases h
def roundE (lp : LProg) (N k : Nat) (mask : List Bool) (c : LCode) (t : List LV) (st : List LObj) (os : Os) : Option (List LV × List LObj × List Prop) :=
  match execO lp k N c t st os with
  | some (.normal, t', st', ps, _) => some (kill mask t', st', ps)
  | _ => none
theorem LoopAt.onS {lp : LProg} {N k : Nat} {mask : List Bool} {c : LCode} {t t1 t' : List LV} {st st1 st' : List LObj} {os : Os} {ps : List Prop} {r : LOut × List LV × List LObj}
    (h : roundE lp N k mask c t st os = some (t1, st1, ps)) (hp : Conj ps) (hg : gc k t1 st1 = some (t', st')) (hr : LoopAt lp k mask c t' st' r) : LoopAt lp k mask c t st r := by
  unfold roundE at h
  split at h
  · rename_i t2 st2 ps1 os1 hex
    simp only [Option.some.injEq, Prod.mk.injEq] at h
    obtain ⟨rfl, rfl, rfl⟩ := h
    obtain ⟨n, hn⟩ := (execO_sound hex hp.all).at
    obtain ⟨m, hm⟩ := hr
    refine ⟨max n m + 1, ?_⟩
    rw [hn (max n m + 1) (by omega)]
    simp only [exec, hg]
    cases he : exec (runF lp m) k m c t' st' with
    | none => rw [he] at hm; cases hm
    | some x =>
      obtain ⟨o2, t3, st3⟩ := x
      rw [he] at hm
      rw [exec_mono (runF_mono (show m ≤ max n m + 1 by omega)) (show m ≤ max n m by omega) he]
      cases o2 with
      | normal => exact exec_mono (runF_mono (by omega)) (by omega) hm
      | _ => exact hm
  · cases h
theorem refs_at {st sh : List LObj} (hr : st.map LObj.refs = sh.map LObj.refs) (o : Nat) : ((st[o]?).getD .dead).refs = ((sh[o]?).getD .dead).refs := by
  have h : (st.map LObj.refs)[o]? = (sh.map LObj.refs)[o]? := by rw [hr]
  rw [List.getElem?_map, List.getElem?_map] at h
  cases h1 : st[o]? with
  | none => cases h2 : sh[o]? with
    | none => rfl
    | some y => rw [h1, h2] at h; cases h
  | some x => cases h2 : sh[o]? with
    | none => rw [h1, h2] at h; cases h
    | some y => rw [h1, h2] at h; simpa using h
theorem reach_sh {st sh : List LObj} (hr : st.map LObj.refs = sh.map LObj.refs) : ∀ (n : Nat) (todo acc : List Nat), reach st n todo acc = reach sh n todo acc := by
  intro n
  induction n with
  | zero => intro todo acc; cases todo <;> rfl
  | succ n ih =>
    intro todo acc
    cases todo with
    | nil => rfl
    | cons o r => simp only [reach, ih, refs_at hr o]
theorem closed_sh {st sh : List LObj} (hr : st.map LObj.refs = sh.map LObj.refs) (ids : List Nat) : closed st ids = closed sh ids := by
  have hl : st.length = sh.length := by have := congrArg List.length hr; simpa using this
  unfold closed
  rw [hl]
  congr 1
  funext o
  rw [refs_at hr o]
def gcSh (k : Nat) (vs : List LV) (st : List LObj) : Option (List LV × List Nat) :=
  let ids := gcIds k st (vs.flatMap LV.refs)
  if closed st ids && (vs.flatMap LV.refs).all (ids.contains ·) && decide ids.Nodup && decide (ids.take k = List.range k) then
    some (vs.map (LV.ren fun q => ids.idxOf q), ids)
  else none
theorem gc_sh {k : Nat} {vs vs' : List LV} {st sh st' : List LObj} {ids : List Nat} (hr : st.map LObj.refs = sh.map LObj.refs) (hc : gcSh k vs sh = some (vs', ids)) (hs : sub st ids = st') : gc k vs st = some (vs', st') := by
  have e : gcIds k st (vs.flatMap LV.refs) = gcIds k sh (vs.flatMap LV.refs) := by
    unfold gcIds
    rw [reach_sh hr]
    congr 2
    have : ∀ l : List LObj, l.flatMap LObj.refs = (l.map LObj.refs).flatten := fun l => by rw [List.flatMap_def]
    rw [this, this, List.map_take, List.map_take, hr]
  unfold gcSh at hc
  unfold gc
  simp only at hc ⊢
  rw [e, closed_sh hr]
  split at hc
  · rename_i h
    rw [if_pos h]
    simp only [Option.some.injEq, Prod.mk.injEq] at hc
    obtain ⟨rfl, h2⟩ := hc
    rw [← h2] at hs
    rw [hs]
  · cases hc
end Go.LS
set_option linter.unusedVariables false
set_option linter.unusedSimpArgs false
namespace Go.LS
theorem unb_byte (b : UInt8) : unb [.int .u8 b.toNat] = some b := by simp [unb]
theorem unbs_bs : ∀ (L : List UInt8), unbs (bs L) = some L
  | [] => rfl
  | b :: r => by
    have := unbs_bs r
    simp only [bs] at this
    simp [bs, unbs, unb_byte, this]
theorem opIs_b2s {v : LV} {L : List UInt8} {st : List LObj} (h : v.asSl = some (bs L)) : opStep noCall [] st (.cv .b2s (.const v)) = some (.p (.str L), st) := by
  have : lcv .b2s v = some (.str L) := by
    cases v <;> simp only [LV.asSl] at h <;> first | (cases h; done) | skip
    case p v =>
      cases v <;> simp only [LV.asSl] at h <;> first | (cases h; done) | skip
      cases h; simp [lcv, LV.asSl, unbs_bs]
    case sl es t f => cases h; simp [lcv, LV.asSl, unbs_bs]
    case tight es => cases h; simp [lcv, LV.asSl, unbs_bs]
  simp [opStep, LX.ev, this]
theorem bs_len (L : List UInt8) : (bs L).length = L.length := by simp [bs]
theorem bs_append (L M : List UInt8) : bs (L ++ M) = bs L ++ bs M := by simp [bs]
theorem bs_sized (L : List UInt8) : sized 1 (bs L) = true := by simp [sized, bs]
theorem bs_empty (M : List UInt8) : (bs M).isEmpty = M.isEmpty := by cases M <;> rfl
theorem byte_bs {e : Int} (h0 : 0 ≤ e) (h1 : e ≤ 255) : [[PV.int .u8 e]] = bs [UInt8.ofNat e.toNat] := by
  simp [bs]
  omega
theorem opIs_appS {str : Bool} {L M : List UInt8} {es : List (List PV)} {t : Nat} {st : List LObj} {x : LV} (hs : st[t]? = some (.spare 1 L.length)) (hx : appended str st x = some es) (he : es = bs M)
    (hl : L.length + M.length ≤ 200000000000000) : opStep noCall [] st (.append str 1 1 (.const (.sl (bs L) t L.length)) (.const x)) = some (.sl (bs (L ++ M)) t (L ++ M).length, st.set t (.spare 1 (L ++ M).length)) := by
  subst he
  refine orA_of ?_
  simp only [LX.ev, lappend, hx, bs_sized, hs, bs_empty, bs_len]
  by_cases hM : M.isEmpty = true
  · have : M = [] := by simpa using hM
    subst this
    simp
    obtain ⟨h1, h2⟩ := List.getElem?_eq_some_iff.1 hs
    conv => rhs; rw [← h2]
    simp
  · simp only [hM]
    simp [bs_append, maxLen, roomy1 hl]
    omega
theorem opIs_appT {str : Bool} {L M : List UInt8} {es es0 : List (List PV)} {st : List LObj} {x : LV} (he0 : es0 = bs L) (hx : appended str st x = some es) (he : es = bs M) (hM : M ≠ [])
    (hl : L.length + M.length ≤ 200000000000000) : opStep noCall [] st (.append str 1 1 (.const (.tight es0)) (.const x)) = some (.sl (bs (L ++ M)) st.length (L ++ M).length, st ++ [.spare 1 (L ++ M).length]) := by
  subst he he0
  have : M.isEmpty = false := by cases M <;> simp_all
  refine orA_of ?_
  simp only [LX.ev, lappend, hx, bs_sized, bs_empty, bs_len, this]
  simp [bs_append, maxLen, roomy1 hl]
  omega
def vcode (u : Nat) : List UInt8 := if u < 128 then [UInt8.ofNat u] else UInt8.ofNat (u % 128 + 128) :: vcode (u / 128)
termination_by u
decreasing_by omega
theorem vcode_len : ∀ (u : Nat), u < 2 ^ 64 → (vcode u).length ≤ 10 := by
  have key : ∀ k u, u < 128 ^ (k + 1) → (vcode u).length ≤ k + 1 := by
    intro k
    induction k with
    | zero => intro u hu; rw [vcode]; simp at hu; simp [hu]
    | succ k ih =>
      intro u hu
      rw [vcode]
      split
      · simp
      · simp only [List.length_cons]
        have := ih (u / 128) (by rw [Nat.div_lt_iff_lt_mul (by omega)]; rw [Nat.pow_succ] at hu; exact hu)
        omega
  intro u hu
  exact key 9 u (Nat.lt_of_lt_of_le hu (by decide))
end Go.LS
namespace Go.LS
theorem wrap_u8_range (n : Int) : 0 ≤ IntKind.wrap .u8 n ∧ IntKind.wrap .u8 n ≤ 255 := by
  simp only [IntKind.wrap, IntKind.bits, IntKind.signed]
  simp
  omega
theorem wrap_u8_bs (n : Int) : [[PV.int .u8 (IntKind.wrap .u8 n)]] = bs [UInt8.ofNat (IntKind.wrap .u8 n).toNat] := byte_bs (wrap_u8_range n).1 (wrap_u8_range n).2
end Go.LS
namespace Go.LS
theorem opIs_s2b {s : List UInt8} {st : List LObj} (h : s.length ≤ 140737488355328) : opStep noCall [] st (.cv .s2b (.const (.p (.str s)))) = some (.p (.sl (bs s)), st) := by
  simp [opStep, LX.ev, lcv, h]
theorem wrap_u64_nat {n : Nat} (h : n < 2 ^ 64) : IntKind.wrap .u64 (n : Int) = (n : Int) := by
  simp only [IntKind.wrap, IntKind.bits, IntKind.signed]
  simp
  omega
theorem wrap_u64 (n : Int) : IntKind.wrap .u64 n = n % 18446744073709551616 := by
  simp only [IntKind.wrap, IntKind.bits, IntKind.signed]
  simp
theorem wrap_i64 {n : Int} (h0 : -9223372036854775808 ≤ n) (h1 : n ≤ 9223372036854775807) : IntKind.wrap .i64 n = n := by
  simp only [IntKind.wrap, IntKind.bits, IntKind.signed]
  simp
  omega
end Go.LS
namespace Go.LS
theorem bs_all (L : List UInt8) (n : Nat) (h : n = 1) : ((bs L).all fun e => e.length == n) = true := by subst h; simp [bs]
theorem bs_take (L : List UInt8) (k : Nat) : bs (L.take k) = (bs L).take k := by simp [bs, List.map_take]
theorem bs_drop (L : List UInt8) (k : Nat) : bs (L.drop k) = (bs L).drop k := by simp [bs, List.map_drop]
theorem opIs_sliceTake {M : List UInt8} {t n k j : Nat} {st : List LObj} (hj : k = j) (hk : k < M.length) :
    opStep noCall [] st (.slice 1 (.const (.sl (bs M) t n)) none (some (.const (.p (.int .i64 ((k : Nat) : Int))))) none) = some (.p (.sl (bs (M.take j))), st) := by
  subst hj
  have h1 : (k : Int) ≤ (M.length : Int) := by omega
  have h2 : ¬ (k = M.length) := by omega
  simp [opStep, LX.ev, rslice, LV.asSl, bs_all, lslice, bnd, bs_len, h1, h2, bs_take]
theorem opIs_sliceAll {M : List UInt8} {t n k : Nat} {st : List LObj} (hj : k = M.length) (hk : 0 < M.length) :
    opStep noCall [] st (.slice 1 (.const (.sl (bs M) t n)) none (some (.const (.p (.int .i64 ((k : Nat) : Int))))) none) = some (.sl (bs M) t n, st) := by
  subst hj
  have h0 : M ≠ [] := by intro h; subst h; simp at hk
  simp [opStep, LX.ev, rslice, LV.asSl, bs_all, lslice, bnd, bs_len, hk, h0]
theorem ofNat8_inj {a b : Nat} (ha : a < 256) (hb : b < 256) (h : UInt8.ofNat a = UInt8.ofNat b) : a = b := by
  have := congrArg UInt8.toNat h
  simp [UInt8.toNat_ofNat'] at this
  omega
theorem vcode_pos (u : Nat) : 0 < (vcode u).length := by rw [vcode]; split <;> simp
theorem vcode_lo {u : Nat} (h : u < 128) : vcode u = [UInt8.ofNat u] := by rw [vcode, if_pos h]
theorem vcode_hi {u : Nat} (h : ¬ u < 128) : vcode u = UInt8.ofNat (u % 128 + 128) :: vcode (u / 128) := by rw [vcode, if_neg h]
theorem vcode_prefix : ∀ (u w : Nat), (vcode w).take (vcode u).length = vcode u → u = w := by
  intro u
  induction u using Nat.strongRecOn with
  | _ u ih =>
    intro w h
    by_cases hu : u < 128 <;> by_cases hw : w < 128
    · rw [vcode_lo hu, vcode_lo hw] at h
      simp only [List.length_cons, List.length_nil, List.take_succ_cons, List.cons.injEq] at h
      exact (ofNat8_inj (by omega) (by omega) h.1).symm
    · rw [vcode_lo hu, vcode_hi hw] at h
      simp only [List.length_cons, List.length_nil, List.take_succ_cons, List.cons.injEq] at h
      have := ofNat8_inj (by omega) (by omega) h.1
      omega
    · rw [vcode_hi hu, vcode_lo hw] at h
      have hp := vcode_pos (u / 128)
      simp only [List.length_cons, List.take_succ_cons, List.cons.injEq, List.take_nil] at h
      rw [← h.2] at hp
      simp at hp
    · rw [vcode_hi hu, vcode_hi hw] at h
      simp only [List.length_cons, List.take_succ_cons, List.cons.injEq] at h
      have h1 := ofNat8_inj (by omega) (by omega) h.1
      have h2 := ih (u / 128) (by omega) (w / 128) h.2
      omega
end Go.LS
namespace Go.LS
theorem opIs_idx {v : LV} {L : List UInt8} {i : Nat} {c : UInt8} {st : List LObj} (hv : v.asSl = some (bs L)) (hr : v.isRs = false) (h : L[i]? = some c) :
    opStep noCall [] st (.indexAddr 1 (.const v) (.const (.p (.int .i64 ((i : Nat) : Int))))) = some (.pin [.int .u8 c.toNat] 0, st) := by
  have hb : (bs L)[i]? = some [.int .u8 c.toNat] := by simp [bs, h]
  have h0 : ¬ ((i : Int) < 0) := by omega
  cases v <;> simp only [LV.isRs, Bool.true_eq_false] at hr <;> simp only [LV.asSl] at hv <;> first | (cases hv; done) | skip
  all_goals simp [opStep, LX.ev, LV.asInt, LV.asSl, hv, hb, h0]
end Go.LS
namespace Go.LS
theorem opIs_sliceFrom {M : List UInt8} {t n k : Nat} {st : List LObj} (hk : k < M.length) :
    opStep noCall [] st (.slice 1 (.const (.sl (bs M) t n)) (some (.const (.p (.int .i64 ((k : Nat) : Int))))) none none) = some (.sl (bs (M.drop k)) t n, st) := by
  have h1 : (k : Int) ≤ (M.length : Int) := by omega
  simp [opStep, LX.ev, rslice, LV.asSl, bs_all, lslice, bnd, bs_len, h1, hk, bs_drop]
theorem opIs_sliceEnd {M : List UInt8} {t n k : Nat} {st : List LObj} (hk : k = M.length) :
    opStep noCall [] st (.slice 1 (.const (.sl (bs M) t n)) (some (.const (.p (.int .i64 ((k : Nat) : Int))))) none none) = some (.p (.sl []), st) := by
  subst hk
  simp [opStep, LX.ev, rslice, LV.asSl, bs_all, lslice, bnd, bs_len]
theorem opIs_idxD {v : LV} {L : List UInt8} {i : Nat} {st : List LObj} (hv : v.asSl = some (bs L)) (hr : v.isRs = false) (h : i < L.length) :
    opStep noCall [] st (.indexAddr 1 (.const v) (.const (.p (.int .i64 ((i : Nat) : Int))))) = some (.pin [.int .u8 ((L.getD i 0).toNat : Int)] 0, st) := by
  rw [opIs_idx hv hr (c := L.getD i 0) (by simp [List.getD, h])]
theorem opIs_idxI {v : LV} {L : List UInt8} {i : Int} {st : List LObj} (hv : v.asSl = some (bs L)) (hr : v.isRs = false) (h0 : 0 ≤ i) (h : i < (L.length : Int)) :
    opStep noCall [] st (.indexAddr 1 (.const v) (.const (.p (.int .i64 i)))) = some (.pin [.int .u8 ((L.getD i.toNat 0).toNat : Int)] 0, st) := by
  obtain ⟨n, rfl⟩ := Int.eq_ofNat_of_zero_le h0
  exact opIs_idxD hv hr (by omega)
theorem bnd_some {y : Nat} {k : IntKind} {n : Int} {d : Nat} (h0 : 0 ≤ n) (h : n ≤ y) : bnd y (some (.p (.int k n))) d = some n.toNat := by simp [bnd, h0, h]
theorem opIs_slicePD {M : List UInt8} {k : IntKind} {lo : Int} {st : List LObj} (h0 : 0 ≤ lo) (h : lo ≤ (M.length : Int)) :
    opStep noCall [] st (.slice 1 (.const (.p (.sl (bs M)))) (some (.const (.p (.int k lo)))) none none) = some (.p (.sl (bs (M.drop lo.toNat))), st) := by
  have e : (bs M).take (bs M).length = bs M := List.take_length
  have e2 : (bs M).take M.length = bs M := by rw [← bs_len M]; exact e
  simp [opStep, LX.ev, rslice, LV.asSl, bs_all, lslice, bnd, bs_len, h0, h, bs_drop, e2]
theorem opIs_slicePT {M : List UInt8} {k : IntKind} {hi : Int} {st : List LObj} (h0 : 0 ≤ hi) (h : hi ≤ (M.length : Int)) :
    opStep noCall [] st (.slice 1 (.const (.p (.sl (bs M)))) none (some (.const (.p (.int k hi)))) none) = some (.p (.sl (bs (M.take hi.toNat))), st) := by
  simp [opStep, LX.ev, rslice, LV.asSl, bs_all, lslice, bnd, bs_len, h0, h, bs_take]
  split
  · rename_i v hv
    split at hv
    · rename_i h1
      cases hv
      rw [h1.1, ← bs_len M, List.take_length]
    · cases hv; rfl
  · rename_i hv; split at hv <;> cases hv
theorem opIs_sliceP2 {M : List UInt8} {k j : IntKind} {lo hi : Int} {st : List LObj} (h0 : 0 ≤ lo) (h1 : lo ≤ hi) (h : hi ≤ (M.length : Int)) :
    opStep noCall [] st (.slice 1 (.const (.p (.sl (bs M)))) (some (.const (.p (.int k lo)))) (some (.const (.p (.int j hi)))) none) = some (.p (.sl (bs ((M.take hi.toNat).drop lo.toNat))), st) := by
  have hh : 0 ≤ hi := by omega
  have hl : lo ≤ ((hi.toNat : Nat) : Int) := by omega
  have hl2 : lo ≤ max hi 0 := by omega
  simp [opStep, LX.ev, rslice, LV.asSl, bs_all, lslice, bnd, bs_len, h0, hh, hl, hl2, h, bs_take, bs_drop]
  split
  · rename_i v hv
    split at hv
    · rename_i h1
      cases hv
      rw [h1.1, ← bs_len M, List.take_length]
    · cases hv; rfl
  · rename_i hv; split at hv <;> cases hv
theorem opIs_sliceStrD {M : List UInt8} {k : IntKind} {lo : Int} {st : List LObj} (h0 : 0 ≤ lo) (h : lo ≤ (M.length : Int)) :
    opStep noCall [] st (.sslice (.const (.p (.str M))) (some (.const (.p (.int k lo)))) none none) = some (.p (.str (M.drop lo.toNat)), st) := by
  simp [opStep, LX.ev, lslice, bnd, h0, h]
theorem opIs_sliceStrT {M : List UInt8} {k : IntKind} {hi : Int} {st : List LObj} (h0 : 0 ≤ hi) (h : hi ≤ (M.length : Int)) :
    opStep noCall [] st (.sslice (.const (.p (.str M))) none (some (.const (.p (.int k hi)))) none) = some (.p (.str (M.take hi.toNat)), st) := by
  simp [opStep, LX.ev, lslice, bnd, h0, h]
theorem opIs_sliceStr2 {M : List UInt8} {k j : IntKind} {lo hi : Int} {st : List LObj} (h0 : 0 ≤ lo) (h1 : lo ≤ hi) (h : hi ≤ (M.length : Int)) :
    opStep noCall [] st (.sslice (.const (.p (.str M))) (some (.const (.p (.int k lo)))) (some (.const (.p (.int j hi)))) none) = some (.p (.str ((M.take hi.toNat).drop lo.toNat)), st) := by
  have hh : 0 ≤ hi := by omega
  have hl : lo ≤ ((hi.toNat : Nat) : Int) := by omega
  have hl2 : lo ≤ max hi 0 := by omega
  simp [opStep, LX.ev, lslice, bnd, h0, hh, hl, hl2, h]
theorem opIs_shl {k j : IntKind} {a b : Int} {st : List LObj} (h : 0 ≤ b) :
    opStep noCall [] st (.bin .shl (.const (.p (.int k a))) (.const (.p (.int j b)))) = some (.p (.int k (IntKind.wrap k (a * 2 ^ min (Int.toNat b) k.bits))), st) := by
  have h0 : ¬ b < 0 := by omega
  simp [opStep, LX.ev, lbin, h0]
theorem iteP {c : Prop} [Decidable c] {a b : Prop} (h : if c then a else b) (k : c) : a := by rwa [if_pos k] at h
theorem iteN {c : Prop} [Decidable c] {a b : Prop} (h : if c then a else b) (k : ¬ c) : b := by rwa [if_neg k] at h
theorem iteRP {lp : LProg} {f : FuncId} {args : List LV} {st : List LObj} {c : Prop} [Decidable c] {a b : LV × List LObj} (k : c) (h : Runs lp f args st a) : Runs lp f args st (if c then a else b) := by rwa [if_pos k]
theorem iteRN {lp : LProg} {f : FuncId} {args : List LV} {st : List LObj} {c : Prop} [Decidable c] {a b : LV × List LObj} (k : ¬ c) (h : Runs lp f args st b) : Runs lp f args st (if c then a else b) := by rwa [if_neg k]
theorem opIs_idxE {v : LV} {E : List (List PV)} {e : List PV} {z : Nat} {i : Nat} {st : List LObj} (hv : v.asSl = some E) (hr : v.isRs = false) (h : E[i]? = some e) (hz : e.length = z) :
    opStep noCall [] st (.indexAddr z (.const v) (.const (.p (.int .i64 ((i : Nat) : Int))))) = some (.pin e 0, st) := by
  have h0 : ¬ ((i : Int) < 0) := by omega
  cases v <;> simp only [LV.isRs, Bool.true_eq_false] at hr <;> simp only [LV.asSl] at hv <;> first | (cases hv; done) | skip
  all_goals simp [opStep, LX.ev, LV.asInt, LV.asSl, hv, h, h0, hz]
theorem wrap_u8_bs4 (a b c d : Int) : [[PV.int .u8 (IntKind.wrap .u8 a)], [PV.int .u8 (IntKind.wrap .u8 b)], [PV.int .u8 (IntKind.wrap .u8 c)], [PV.int .u8 (IntKind.wrap .u8 d)]] =
    bs [UInt8.ofNat (IntKind.wrap .u8 a).toNat, UInt8.ofNat (IntKind.wrap .u8 b).toNat, UInt8.ofNat (IntKind.wrap .u8 c).toNat, UInt8.ofNat (IntKind.wrap .u8 d).toNat] := by
  have h := wrap_u8_bs
  simp only [bs, List.map_cons, List.map_nil, List.cons.injEq, and_true] at h ⊢
  exact ⟨h a, h b, h c, h d⟩
end Go.LS
set_option linter.unusedVariables false
set_option linter.unusedSimpArgs false
namespace Go.LS
theorem opIs_idxEI {v : LV} {E : List (List PV)} {e : List PV} {z : Nat} {i : Int} {st : List LObj} (hv : v.asSl = some E) (hr : v.isRs = false) (h0 : 0 ≤ i) (h : E[i.toNat]? = some e) (hz : e.length = z) :
    opStep noCall [] st (.indexAddr z (.const v) (.const (.p (.int .i64 i)))) = some (.pin e 0, st) := by
  obtain ⟨n, rfl⟩ := Int.eq_ofNat_of_zero_le h0
  exact opIs_idxE hv hr h hz
theorem opIs_appTE {size bytes : Nat} {E X : List (List PV)} {st : List LObj} {x : LV} (hx : appended false st x = some X) (hE : sized size E = true) (hX : sized size X = true) (hne : X ≠ [])
    (hb : (E.length + X.length) * bytes ≤ 140737488355328) (hm : E.length + X.length ≤ 9223372036854775807) (h0 : 0 < size) :
    opStep noCall [] st (.append false size bytes (.const (.tight E)) (.const x)) = some (.sl (E ++ X) st.length (E ++ X).length, st ++ [.spare size (E ++ X).length]) := by
  have : X.isEmpty = false := by cases X <;> simp_all
  refine orA_of ?_
  simp [LX.ev, lappend, hx, hX, hE, this, roomy_of hb, maxLen, hm, h0]
theorem opIs_appSE {size bytes tg : Nat} {E X : List (List PV)} {st : List LObj} {x : LV} (hs : st[tg]? = some (.spare size E.length)) (hx : appended false st x = some X) (hX : sized size X = true)
    (hb : (E.length + X.length) * bytes ≤ 140737488355328) (hm : E.length + X.length ≤ 9223372036854775807) (h0 : 0 < size) :
    opStep noCall [] st (.append false size bytes (.const (.sl E tg E.length)) (.const x)) = some (.sl (E ++ X) tg (E ++ X).length, st.set tg (.spare size (E ++ X).length)) := by
  by_cases hM : X = []
  · subst hM
    refine orA_of ?_
    simp [LX.ev, lappend, hx, hX, hs]
    obtain ⟨h1, h2⟩ := List.getElem?_eq_some_iff.1 hs
    conv => rhs; rw [← h2]
    simp
  · have : X.isEmpty = false := by cases X <;> simp_all
    refine orA_of ?_
    simp [LX.ev, lappend, hx, hX, hs, this, roomy_of hb, maxLen, hm, h0, hM]
theorem opIs_sliceFromE {size tg n : Nat} {E : List (List PV)} {lo : Int} {st : List LObj} (hE : sized size E = true) (h0 : 0 ≤ lo) (h : lo < (E.length : Int)) :
    opStep noCall [] st (.slice size (.const (.sl E tg n)) (some (.const (.p (.int .i64 lo)))) none none) = some (.sl (E.drop lo.toNat) tg n, st) := by
  have hall : (E.all fun e => e.length == size) = true := hE
  have h1 : lo ≤ (E.length : Int) := by omega
  simp [opStep, LX.ev, rslice, LV.asSl, hall, lslice, bnd, h0, h1, h]
theorem opIs_sadd {A B : List UInt8} {st : List LObj} (h : A.length + B.length ≤ 9223372036854775807) :
    opStep noCall [] st (.bin .add (.const (.p (.str A))) (.const (.p (.str B)))) = some (.p (.str (A ++ B)), st) := by
  simp [opStep, LX.ev, lbin, sbin, h]
theorem opIs_mk0 {size bytes : Nat} {z : List LV} {c : Int} {st : List LObj} (h : 0 < c ∧ c * (bytes : Int) ≤ 281474976710656 ∧ c ≤ 9223372036854775807) (hz : z.length = size) (h0 : 0 < size) :
    opStep noCall [] st (.mkslice size bytes z (.const (.p (.int .i64 0))) (.const (.p (.int .i64 c)))) = some (.sl [] st.length 0, st ++ [.spare size 0]) := by
  have h1 : 0 ≤ c := by omega
  simp [opStep, LX.ev, LV.asInt, h.1, h.2.1, h1, hz, h0, maxLen]
  omega
theorem opIs_grow {size bytes : Nat} {n : Int} {st : List LObj} (h : 0 < n ∧ roomy n.toNat bytes = true ∧ n ≤ 9223372036854775807) :
    opStep noCall [] st (.grow size bytes (.const (.tight [])) (.const (.p (.int .i64 n)))) = some (.gr st.length n.toNat, st ++ [.spare size 0]) := by
  have hn : ¬ n = 0 := by omega
  simp [opStep, LX.ev, hn, h]
theorem opIs_sliceGr {size tg n : Nat} {st : List LObj} :
    opStep noCall [] st (.slice size (.const (.gr tg n)) none (some (.const (.p (.int .i64 0)))) none) = some (.sl [] tg 0, st) := by
  simp [opStep, LX.ev, rslice, bnd]
theorem opIs_appT0 {str : Bool} {M : List UInt8} {es : List (List PV)} {st : List LObj} {x : LV} (hx : appended str st x = some es) (he : es = bs M) (hM : decide (M = []) = true) :
    opStep noCall [] st (.append str 1 1 (.const (.tight [])) (.const x)) = some (.tight [], st) := by
  subst he
  have : M = [] := of_decide_eq_true hM
  subst this
  refine orA_of ?_
  simp [LX.ev, lappend, hx, bs, sized]
theorem opIs_nileq {neg : Bool} {L : List UInt8} {st : List LObj} (h : L ≠ []) :
    opStep noCall [] st (.nileq neg .slice (.const (.p (.sl (bs L))))) = some (.p (.bool neg), st) := by
  cases L with
  | nil => exact (h rfl).elim
  | cons c r => simp [opStep, LX.ev, LV.nilq, bs]
theorem opIs_sidxD {M : List UInt8} {i : Nat} {st : List LObj} (h : i < M.length) :
    opStep noCall [] st (.index (.const (.p (.str M))) (.const (.p (.int .i64 ((i : Nat) : Int))))) = some (.p (.int .u8 ((M.getD i 0).toNat : Int)), st) := by
  simp [opStep, LX.ev, LV.asInt, h]
theorem opIs_sidxI {M : List UInt8} {i : Int} {st : List LObj} (h0 : 0 ≤ i) (h : i < (M.length : Int)) :
    opStep noCall [] st (.index (.const (.p (.str M))) (.const (.p (.int .i64 i)))) = some (.p (.int .u8 ((M.getD i.toNat 0).toNat : Int)), st) := by
  obtain ⟨n, rfl⟩ := Int.eq_ofNat_of_zero_le h0
  exact opIs_sidxD (by omega)
end Go.LS
set_option linter.unusedVariables false
set_option linter.unusedSimpArgs false
namespace Go.LS
def cr0 : List LOper := [⟨some 4, .mv (.const (.p (.int .i64 0))), none⟩]
def cr1 : List LOper := [⟨some 11, .mv (.tmp 0), none⟩, ⟨some 12, .peq false (.tmp 11) (.const (.p .nilp)), none⟩]
def cr2 : List LOper := [⟨some 4, .mv (.const (.p (.int .i64 6))), none⟩]
def cr3 : List LOper := [⟨some 13, .mkmap, none⟩, ⟨some 5, .mv (.tmp 13), none⟩]
def cr4 : List LOper := [⟨some 14, .mv (.tmp 1), none⟩, ⟨some 15, .len (.tmp 14), none⟩, ⟨some 16, .mv (.const (.p (.int .i64 0))), none⟩]
def cr5 : List LOper := [⟨some 17, .bin .lss (.tmp 16) (.tmp 15), none⟩]
def cr6 : List LOper := [⟨some 18, .indexAddr 2 (.tmp 14) (.tmp 16), none⟩, ⟨some 19, .load true 2 (.tmp 18), none⟩, ⟨some 7, .alloc [.p (.str []), .p (.int .i64 0)], none⟩, ⟨none, .store 2 (.tmp 7) (.tmp 19), none⟩]
def cr7 (K : Nat) : List LOper := [⟨some 20, .fieldAddr 0 (.tmp 7), none⟩, ⟨some 21, .load false 1 (.tmp 20), none⟩, ⟨some 22, .call K [.tmp 21], none⟩, ⟨some 23, .un .not (.tmp 22), none⟩]
def cr8 : List LOper := [⟨some 4, .mv (.const (.p (.int .i64 1))), none⟩]
def cr9 : List LOper := [⟨some 24, .mv (.tmp 5), none⟩, ⟨some 25, .fieldAddr 0 (.tmp 7), none⟩, ⟨some 26, .load false 1 (.tmp 25), none⟩, ⟨some 27, .fieldAddr 1 (.tmp 7), none⟩, ⟨some 28, .load false 1 (.tmp 27), none⟩, ⟨some 29, .mx (.tmp 28) (.const (.p (.int .i64 0))), none⟩, ⟨none, .mapUpdate .str (.tmp 24) (.tmp 26) (.tmp 29), none⟩]
def cr10 : List LOper := [⟨some 30, .bin .add (.tmp 16) (.const (.p (.int .i64 1))), none⟩, ⟨some 16, .mv (.tmp 30), none⟩]
def cr11 : List LOper := [⟨some 31, .mv (.tmp 0), none⟩, ⟨some 32, .nilChk (.tmp 31), none⟩, ⟨some 33, .fieldAddr 0 (.tmp 32), none⟩, ⟨some 34, .load false 1 (.tmp 33), none⟩]
def cr12 : List LOper := [⟨some 37, .extract (.tmp 36) 0, none⟩]
def cr13 : List LOper := [⟨some 39, .extract (.tmp 38) 0, none⟩, ⟨some 40, .extract (.tmp 38) 1, none⟩, ⟨some 9, .alloc [(.tight []), .p (.int .i64 0)], none⟩, ⟨some 8, .mv (.tmp 39), none⟩, ⟨none, .store 2 (.tmp 9) (.tmp 40), none⟩]
def cr14 : List LOper := [⟨some 41, .fieldAddr 1 (.tmp 9), none⟩, ⟨some 42, .load false 1 (.tmp 41), none⟩, ⟨some 43, .mv (.tmp 5), none⟩, ⟨some 44, .mv (.tmp 8), none⟩, ⟨some 45, .lookup .str (.p (.int .i64 0)) false (.tmp 43) (.tmp 44), none⟩, ⟨some 46, .fieldAddr 0 (.tmp 9), none⟩, ⟨some 47, .load false 1 (.tmp 46), none⟩, ⟨some 48, .len (.tmp 47), none⟩, ⟨some 49, .fieldAddr 1 (.tmp 9), none⟩, ⟨some 50, .load false 1 (.tmp 49), none⟩, ⟨some 51, .bin .sub (.tmp 48) (.tmp 50), none⟩, ⟨some 52, .mn (.tmp 45) (.tmp 51), none⟩, ⟨some 53, .bin .add (.tmp 42) (.tmp 52), none⟩, ⟨some 10, .mv (.tmp 53), none⟩]
def cr15 : List DOp := [⟨.h, 0, [], ⟨some 54, .mv (.tmp 0), none⟩⟩, ⟨.h, 1, [], ⟨some 55, .nilChk (.tmp 54), none⟩⟩, ⟨.h, 2, [], ⟨some 56, .fieldAddr 0 (.tmp 55), none⟩⟩, ⟨.h, 3, [], ⟨some 57, .load false 1 (.tmp 56), none⟩⟩, ⟨.h, 4, [], ⟨some 58, .mv (.tmp 8), none⟩⟩, ⟨.h, 5, [], ⟨some 59, .fieldAddr 0 (.tmp 9), none⟩⟩, ⟨.h, 6, [], ⟨some 60, .load false 1 (.tmp 59), none⟩⟩, ⟨.h, 7, [], ⟨some 61, .mv (.tmp 10), none⟩⟩, ⟨.h, 8, [], ⟨some 62, .slice 1 (.tmp 60) none (some (.tmp 61)) none, none⟩⟩, ⟨.h, 9, [], ⟨some 63, .mv (.tmp 10), none⟩⟩, ⟨.h, 10, [], ⟨some 64, .build [(.tight []), .p (.int .i64 0)] [(0, 1, (.tmp 62)), (1, 1, (.tmp 63))], none⟩⟩]
def cr16 : List LOper := [⟨some 65, .mv (.tmp 0), none⟩, ⟨some 66, .mv (.tmp 0), none⟩, ⟨some 67, .mv (.tmp 0), none⟩, ⟨some 68, .nilChk (.tmp 65), none⟩, ⟨some 69, .fieldAddr 3 (.tmp 68), none⟩, ⟨none, .store 1 (.tmp 69) (.const (.p (.bool false))), none⟩, ⟨some 70, .nilChk (.tmp 66), none⟩, ⟨some 71, .fieldAddr 1 (.tmp 70), none⟩, ⟨none, .store 1 (.tmp 71) (.const (.p (.int .i64 (-1)))), none⟩, ⟨some 72, .nilChk (.tmp 67), none⟩, ⟨some 73, .fieldAddr 2 (.tmp 72), none⟩, ⟨none, .store 1 (.tmp 73) (.const (.p (.int .i64 0))), none⟩]
section
variable {call : CallF}
abbrev dP : LV := .ptr 0 0 0
def S0 (a b c : PV) : List LObj := [.row [[.mp 1, .p a, .p b, .p c]], .dead]
def S1 (a b c : PV) (ks : List (List UInt8 × Int)) : List LObj := [.row [[.mp 1, .p a, .p b, .p c]], .dead, .map (ksV ks)]
def S2 (a b c : PV) (ks : List (List UInt8 × Int)) : List LObj := [.row [[.mp 1, .p a, .p b, .p c]], .dead, .map (ksV ks), .dead]
theorem crRun0 {f : List (Nat × LV)} {st : List LObj} : runOps call cr0 (mkT f) st = some (mkT ((4, .p (.int .i64 0)) :: f), st) := rstep (by decide) rfl rnil
theorem crRun2 {f : List (Nat × LV)} {st : List LObj} : runOps call cr2 (mkT f) st = some (mkT ((4, .p (.int .i64 6)) :: f), st) := rstep (by decide) rfl rnil
theorem crRun8 {f : List (Nat × LV)} {st : List LObj} : runOps call cr8 (mkT f) st = some (mkT ((4, .p (.int .i64 1)) :: f), st) := rstep (by decide) rfl rnil
theorem crRun1 {f : List (Nat × LV)} {st : List LObj} {o : Nat} (h : lk f 0 = .ptr o 0 0) : runOps call cr1 (mkT f) st = some (mkT ((12, .p (.bool false)) :: (11, .ptr o 0 0) :: f), st) := by
  refine rstep (by decide) (v := .ptr o 0 0) (st1 := st) ?_ (rstep (by decide) rfl rnil)
  simp only [opStep, LX.ev]
  rw [mkT_get _ _ (by decide), h]
theorem crRun1n {f : List (Nat × LV)} {st : List LObj} (h : lk f 0 = .p .nilp) : runOps call cr1 (mkT f) st = some (mkT ((12, .p (.bool true)) :: (11, .p .nilp) :: f), st) := by
  refine rstep (by decide) (v := .p .nilp) (st1 := st) ?_ (rstep (by decide) rfl rnil)
  simp only [opStep, LX.ev]
  rw [mkT_get _ _ (by decide), h]
theorem crRun3 {a b c : PV} {L : LV} : runOps call cr3 (mkT [(4, .p (.int .i64 0)), (0, dP), (1, L)]) (S0 a b c) = some (mkT [(5, .mp 2), (13, .mp 2), (4, .p (.int .i64 0)), (0, dP), (1, L)], S1 a b c []) :=
  rstep (by decide) (v := .mp 2) rfl (rstep (by decide) rfl rnil)
abbrev fA (rows : List (List PV)) (j : Nat) : List (Nat × LV) := [(0, dP), (5, .mp 2), (14, .p (.sl rows)), (15, .p (.int .i64 rows.length)), (16, .p (.int .i64 j))]
theorem crRun4 {rows : List (List PV)} {st : List LObj} : runOps call cr4 (mkT [(5, .mp 2), (0, dP), (1, .p (.sl rows))]) st =
    some (mkT [(16, .p (.int .i64 0)), (15, .p (.int .i64 rows.length)), (14, .p (.sl rows)), (5, .mp 2), (0, dP), (1, .p (.sl rows))], st) :=
  rstep (by decide) (v := .p (.sl rows)) rfl (rstep (by decide) rfl (rstep (by decide) rfl rnil))
theorem crRun5 {rows : List (List PV)} {j : Nat} {st : List LObj} : runOps call cr5 (mkT (fA rows j)) st = some (mkT ((17, .p (.bool (decide (j < rows.length)))) :: fA rows j), st) := by
  refine rstep (by decide) (v := .p (.bool (decide (j < rows.length)))) (st1 := st) ?_ rnil
  show some ((LV.p (.bool (decide ((j : Int) < (rows.length : Int))))), st) = _
  simp
theorem crRun6 {a b c : PV} {ks : List (List UInt8 × Int)} {rows : List (List PV)} {j : Nat} {s : List UInt8} {n : Int} (h : rows[j]? = some [.str s, .int .i64 n]) :
    runOps call cr6 (mkT (fA rows j)) (S1 a b c ks) = some (mkT ((7, .ptr 3 0 0) :: (19, .agg [.p (.str s), .p (.int .i64 n)]) :: (18, .pin [.str s, .int .i64 n] 0) :: fA rows j), S1 a b c ks ++ [.row [[.p (.str s), .p (.int .i64 n)]]]) := by
  refine rstep (by decide) (v := .pin [.str s, .int .i64 n] 0) (st1 := S1 a b c ks) ?_ (rstep (by decide) (v := .agg [.p (.str s), .p (.int .i64 n)]) rfl (rstep (by decide) (v := .ptr 3 0 0) rfl (rstepN rfl rnil)))
  show (if (j : Int) < 0 then none else match rows[(j : Int).toNat]? with | some e => if e.length = 2 then some (LV.pin e 0, S1 a b c ks) else none | none => none) = _
  rw [if_neg (by omega), Int.toNat_natCast, h]; rfl
theorem crRun7 {a b c : PV} {ks : List (List UInt8 × Int)} {K : Nat} {s : List UInt8} {n : Int} {x : Bool} {f : List (Nat × LV)} (hK : call K [.p (.str s)] [] = some (.p (.bool x), [])) (h7 : lk f 7 = .ptr 3 0 0) :
    runOps call (cr7 K) (mkT f) (S1 a b c ks ++ [.row [[.p (.str s), .p (.int .i64 n)]]]) = some (mkT ((23, .p (.bool !x)) :: (22, .p (.bool x)) :: (21, .p (.str s)) :: (20, .ptr 3 0 0) :: f), S1 a b c ks ++ [.row [[.p (.str s), .p (.int .i64 n)]]]) := by
  refine rstep (by decide) (v := .ptr 3 0 0) (st1 := S1 a b c ks ++ [.row [[.p (.str s), .p (.int .i64 n)]]]) ?_ (rstep (by decide) (v := .p (.str s)) rfl (rstep (by decide) (v := .p (.bool x)) (callIso_str hK) (rstep (by decide) (v := .p (.bool !x)) rfl rnil)))
  simp only [opStep, LX.ev]
  rw [mkT_get _ _ (by decide), h7]
theorem crRun9 {a b c : PV} {ks : List (List UInt8 × Int)} {s : List UInt8} {n : Int} {f : List (Nat × LV)} (h5 : lk f 5 = .mp 2) (h7 : lk f 7 = .ptr 3 0 0) :
    ∃ f', runOps call cr9 (mkT f) (S1 a b c ks ++ [.row [[.p (.str s), .p (.int .i64 n)]]]) = some (mkT f', S1 a b c (kset s (if n < 0 then 0 else n) ks) ++ [.row [[.p (.str s), .p (.int .i64 n)]]]) ∧ ∀ i, i < 20 → lk f' i = lk f i := by
  refine ⟨[(29, .p (.int .i64 (if n < 0 then 0 else n))), (28, .p (.int .i64 n)), (27, .ptr 3 0 1), (26, .p (.str s)), (25, .ptr 3 0 0), (24, .mp 2)] ++ f, ?_, ?_⟩
  · refine rstep (by decide) (v := .mp 2) (st1 := S1 a b c ks ++ [.row [[.p (.str s), .p (.int .i64 n)]]]) ?_ (rstep (by decide) (v := .ptr 3 0 0) (st1 := S1 a b c ks ++ [.row [[.p (.str s), .p (.int .i64 n)]]]) ?_ (rstep (by decide) (v := .p (.str s)) rfl
      (rstep (by decide) (v := .ptr 3 0 1) (st1 := S1 a b c ks ++ [.row [[.p (.str s), .p (.int .i64 n)]]]) ?_ (rstep (by decide) (v := .p (.int .i64 n)) rfl (rstep (by decide) (v := .p (.int .i64 (if n < 0 then 0 else n))) rfl (rstepN (v := .tup []) ?_ rnil))))))
    · simp only [opStep, LX.ev]; rw [mkT_get _ _ (by decide), h5]
    · simp only [opStep, LX.ev]; rw [mkT_get _ _ (by decide)]; simp [lk, h7]
    · simp only [opStep, LX.ev]; rw [mkT_get _ _ (by decide)]; simp [lk, h7]
    · show (match mset (.str s) (.p (.int .i64 (if n < 0 then 0 else n))) (ksV ks) with | some kv' => some (LV.tup [], (S1 a b c ks ++ [LObj.row [[.p (.str s), .p (.int .i64 n)]]]).set 2 (.map kv')) | none => none) = _
      rw [mset_ksV]; rfl
  · intro i hi
    simp only [List.cons_append, List.nil_append, lk]
    rw [if_neg (by simp; omega), if_neg (by simp; omega), if_neg (by simp; omega), if_neg (by simp; omega), if_neg (by simp; omega), if_neg (by simp; omega)]
theorem crRun10 {f : List (Nat × LV)} {st : List LObj} {j : Nat} (hj : j < 9223372036854775807) (h : lk f 16 = .p (.int .i64 j)) : runOps call cr10 (mkT f) st = some (mkT ((16, .p (.int .i64 ((j + 1 : Nat) : Int))) :: (30, .p (.int .i64 ((j + 1 : Nat) : Int))) :: f), st) := by
  refine rstep (by decide) (v := .p (.int .i64 ((j + 1 : Nat) : Int))) (st1 := st) ?_ (rstep (by decide) rfl rnil)
  simp only [opStep, LX.ev]
  rw [mkT_get _ _ (by decide), h]
  show some (LV.p (.int .i64 (IntKind.wrap .i64 ((j : Int) + 1))), st) = _
  rw [wrap_i64 (by omega) (by omega)]; rfl
theorem crRun11 {a b c : PV} {ks : List (List UInt8 × Int)} : runOps call cr11 (mkT [(0, dP), (5, .mp 2)]) (S1 a b c ks) = some (mkT [(34, .mp 1), (33, .ptr 0 0 0), (32, .ptr 0 0 0), (31, dP), (0, dP), (5, .mp 2)], S1 a b c ks) :=
  rstep (by decide) (v := dP) rfl (rstep (by decide) (v := dP) rfl (rstep (by decide) (v := dP) rfl (rstep (by decide) (v := .mp 1) rfl rnil)))
theorem crRun12 {f : List (Nat × LV)} {st : List LObj} {vs : List LV} {x : Bool} : runOps call cr12 (mkT ((36, .tup (.p (.bool x) :: vs)) :: f)) st = some (mkT ((37, .p (.bool x)) :: (36, .tup (.p (.bool x) :: vs)) :: f), st) :=
  rstep (by decide) rfl rnil
abbrev fB : List (Nat × LV) := [(0, dP), (5, .mp 2), (35, .it 3)]
abbrev fC (s : List UInt8) : List (Nat × LV) := [(0, dP), (5, .mp 2), (35, .it 3), (9, .ptr 4 0 0), (8, .p (.str s))]
theorem crRun13 {a b c : PV} {ks : List (List UInt8 × Int)} {s : List UInt8} {B : List (List PV)} {u : Int} {f : List (Nat × LV)} :
    runOps call cr13 (mkT ((38, .tup [.p (.str s), .agg [.p (.sl B), .p (.int .i64 u)]]) :: f)) (S2 a b c ks) = some (mkT ((8, .p (.str s)) :: (9, .ptr 4 0 0) :: (40, .agg [.p (.sl B), .p (.int .i64 u)]) :: (39, .p (.str s)) :: (38, .tup [.p (.str s), .agg [.p (.sl B), .p (.int .i64 u)]]) :: f), S2 a b c ks ++ [.row [[.p (.sl B), .p (.int .i64 u)]]]) :=
  rstep (by decide) (v := .p (.str s)) rfl (rstep (by decide) (v := .agg [.p (.sl B), .p (.int .i64 u)]) rfl (rstep (by decide) (v := .ptr 4 0 0) rfl (rstep (by decide) (v := .p (.str s)) rfl (rstepN rfl rnil))))
theorem crRun14 {a b c : PV} {ks : List (List UInt8 × Int)} {s : List UInt8} {B : List (List PV)} {u : Int} (hk : kOk ks) (h0 : 0 ≤ u) (h1 : u ≤ B.length) (h2 : B.length ≤ 9223372036854775807) :
    ∃ f', runOps call cr14 (mkT (fC s)) (S2 a b c ks ++ [.row [[.p (.sl B), .p (.int .i64 u)]]]) = some (mkT ((10, .p (.int .i64 (cutN ks s B u))) :: f'), S2 a b c ks ++ [.row [[.p (.sl B), .p (.int .i64 u)]]]) ∧ ∀ i, i < 41 → lk f' i = lk (fC s) i := by
  have hsub : IntKind.wrap .i64 ((B.length : Int) - u) = (B.length : Int) - u := wrap_i64 (by omega) (by omega)
  have hk0 : 0 ≤ (kget s ks).getD 0 := by
    cases e : kget s ks with
    | none => simp
    | some n => exact kget_ok hk e
  have hadd : IntKind.wrap .i64 (cutN ks s B u) = cutN ks s B u := by
    unfold cutN
    split <;> exact wrap_i64 (by omega) (by omega)
  refine ⟨[(53, .p (.int .i64 (cutN ks s B u))), (52, .p (.int .i64 (if (B.length : Int) - u < (kget s ks).getD 0 then (B.length : Int) - u else (kget s ks).getD 0))), (51, .p (.int .i64 ((B.length : Int) - u))), (50, .p (.int .i64 u)), (49, .ptr 4 0 1), (48, .p (.int .i64 B.length)), (47, .p (.sl B)), (46, .ptr 4 0 0), (45, .p (.int .i64 ((kget s ks).getD 0))), (44, .p (.str s)), (43, .mp 2), (42, .p (.int .i64 u)), (41, .ptr 4 0 1)] ++ fC s, ?_, ?_⟩
  · refine rstep (by decide) (v := .ptr 4 0 1) rfl (rstep (by decide) (v := .p (.int .i64 u)) rfl (rstep (by decide) (v := .mp 2) rfl (rstep (by decide) (v := .p (.str s)) rfl (rstep (by decide) (v := .p (.int .i64 ((kget s ks).getD 0))) (st1 := S2 a b c ks ++ [.row [[.p (.sl B), .p (.int .i64 u)]]]) ?_
      (rstep (by decide) (v := .ptr 4 0 0) rfl (rstep (by decide) (v := .p (.sl B)) rfl (rstep (by decide) (v := .p (.int .i64 B.length)) rfl (rstep (by decide) (v := .ptr 4 0 1) rfl (rstep (by decide) (v := .p (.int .i64 u)) rfl
      (rstep (by decide) (v := .p (.int .i64 ((B.length : Int) - u))) (st1 := S2 a b c ks ++ [.row [[.p (.sl B), .p (.int .i64 u)]]]) ?_ (rstep (by decide) rfl (rstep (by decide) (v := .p (.int .i64 (cutN ks s B u))) (st1 := S2 a b c ks ++ [.row [[.p (.sl B), .p (.int .i64 u)]]]) ?_ (rstep (by decide) rfl rnil)))))))))))))
    · show (match mfind (.str s) (ksV ks) with | some (some v) => some (v, S2 a b c ks ++ [LObj.row [[.p (.sl B), .p (.int .i64 u)]]]) | some none => some (LV.p (.int .i64 0), S2 a b c ks ++ [LObj.row [[.p (.sl B), .p (.int .i64 u)]]]) | none => none) = _
      rw [mfind_ksV]
      cases kget s ks <;> rfl
    · show some (LV.p (.int .i64 (IntKind.wrap .i64 ((B.length : Int) - u))), S2 a b c ks ++ [LObj.row [[.p (.sl B), .p (.int .i64 u)]]]) = _
      rw [hsub]
    · show some (LV.p (.int .i64 (IntKind.wrap .i64 (cutN ks s B u))), S2 a b c ks ++ [LObj.row [[.p (.sl B), .p (.int .i64 u)]]]) = _
      rw [hadd]
  · intro i hi
    simp only [List.cons_append, List.nil_append, lk]
    repeat rw [if_neg (by simp; omega)]
theorem cutN_ok {ks : List (List UInt8 × Int)} {s : List UInt8} {B : List (List PV)} {u : Int} (hk : kOk ks) (h0 : 0 ≤ u) (h1 : u ≤ B.length) : u ≤ cutN ks s B u ∧ cutN ks s B u ≤ B.length := by
  have hk0 : 0 ≤ (kget s ks).getD 0 := by
    cases e : kget s ks with
    | none => simp
    | some n => exact kget_ok hk e
  unfold cutN
  split <;> omega
theorem crRun15 {a b c : PV} {ks : List (List UInt8 × Int)} {s : List UInt8} {B : List (List PV)} {u n : Int} (h0 : 0 ≤ n) (h1 : n ≤ B.length) (hB : (B.all fun e => e.length == 1) = true) :
    ∃ f', runDrawn call cr15 [] (mkT ((10, .p (.int .i64 n)) :: fC s)) (S2 a b c ks ++ [.row [[.p (.sl B), .p (.int .i64 u)]]]) = some (mkT ((64, .agg [.p (.sl (B.take n.toNat)), .p (.int .i64 n)]) :: f'), S2 a b c ks ++ [.row [[.p (.sl B), .p (.int .i64 u)]]]) ∧
      lk f' 57 = .mp 1 ∧ lk f' 58 = .p (.str s) ∧ ∀ i, i < 54 → i ≠ 10 → lk f' i = lk (fC s) i := by
  refine ⟨[(63, .p (.int .i64 n)), (62, .p (.sl (B.take n.toNat))), (61, .p (.int .i64 n)), (60, .p (.sl B)), (59, .ptr 4 0 0), (58, .p (.str s)), (57, .mp 1), (56, .ptr 0 0 0), (55, .ptr 0 0 0), (54, dP), (10, .p (.int .i64 n))] ++ fC s, ?_, rfl, rfl, ?_⟩
  · refine dstep (by decide) rfl (v := dP) rfl (dstep (by decide) rfl (v := dP) rfl (dstep (by decide) rfl (v := dP) rfl (dstep (by decide) rfl (v := .mp 1) rfl (dstep (by decide) rfl (v := .p (.str s)) rfl (dstep (by decide) rfl (v := .ptr 4 0 0) rfl (dstep (by decide) rfl (v := .p (.sl B)) rfl
      (dstep (by decide) rfl (v := .p (.int .i64 n)) rfl (dstep (by decide) rfl (v := .p (.sl (B.take n.toNat))) ?_ (dstep (by decide) rfl (v := .p (.int .i64 n)) rfl (dstep (by decide) rfl (v := .agg [.p (.sl (B.take n.toNat)), .p (.int .i64 n)]) rfl (fun held => dnil))))))))))) []
    show (match rslice 1 (S2 a b c ks ++ [LObj.row [[.p (.sl B), .p (.int .i64 u)]]]) (.p (.sl B)) none (some (.p (.int .i64 n))) none with | some v => some (v, _) | none => none) = _
    simp only [rslice, LV.asSl, hB, if_true, lslice, Option.isSome_none, Option.isNone_none, bnd, Bool.false_eq_true, false_and, if_false]
    rw [if_pos ⟨h0, h1⟩]
    simp only [Nat.le_refl, if_true, Nat.zero_le, true_and, List.drop_zero]
    have e : (if n.toNat = B.length ∧ 0 < B.length then some (LV.p (PV.sl B)) else some (LV.p (PV.sl (List.take n.toNat B)))) = some (LV.p (PV.sl (List.take n.toNat B))) := by
      split
      · rename_i h
        rw [h.1, List.take_length]
      · rfl
    simp only [e]
  · intro i hi hi'
    simp only [List.cons_append, List.nil_append, lk]
    repeat rw [if_neg (by simp; omega)]
theorem crRun16 {a b c : PV} {ks : List (List UInt8 × Int)} : ∃ f', runOps call cr16 (mkT fB) (S2 a b c ks) = some (mkT f', S2 (.int .i64 (-1)) (.int .i64 0) (.bool false) ks) :=
  ⟨_, rstep (by decide) (v := dP) rfl (rstep (by decide) (v := dP) rfl (rstep (by decide) (v := dP) rfl (rstep (by decide) (v := dP) rfl (rstep (by decide) (v := .ptr 0 0 3) rfl (rstepN rfl (rstep (by decide) (v := dP) rfl (rstep (by decide) (v := .ptr 0 0 1) rfl (rstepN rfl (rstep (by decide) (v := dP) rfl (rstep (by decide) (v := .ptr 0 0 2) rfl (rstepN rfl rnil)))))))))))⟩
end
end Go.LS
