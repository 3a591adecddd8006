/- Slices of slices, conversions, append. -/
import Derived.Test.YthiilhepneddpaaLsSound4
import Derived.Laws.MakeOwn
set_option linter.unusedVariables false
set_option linter.unusedSimpArgs false
namespace Go.LS
section ops
variable {P : Program} {G : Gh} {st st' : List LObj} {w : World} {t : List LV} {a : Act} {o : Oper} {v : LV}

theorem VL.sl_inv {G : Gh} {es : List (List PV)} {t fin : Nat} {u : Value} (h : VL G (.sl es t fin) u) : ∃ size b off cap, u = .slice (some ⟨b, off, none⟩) es.length cap ∧
    VP G.F (.sl es) u ∧ es.length ≤ cap ∧ (∀ e ∈ es, e.length = size) ∧ G.hist t fin = some ⟨b, off + es.length * size, cap - es.length, size⟩ := by
  cases h with | sl h1 h2 h3 h4 => exact ⟨_, _, _, _, rfl, h1, h2, h3, h4⟩
theorem VL.tight_inv {G : Gh} {es : List (List PV)} {u : Value} (h : VL G (.tight es) u) : ∃ ad, u = .slice ad es.length es.length ∧ VP G.F (.sl es) u := by
  cases h with | tight h => exact ⟨_, rfl, h⟩
theorem VP.int_inv {F : Nat → Nat → Option Value} {k : IntKind} {n : Int} {u : Value} (h : VP F (.int k n) u) : u = .int k n := by cases h; rfl

theorem run_sliceOp {ty e : TypeId} {x : Operand} {lo hi mx : Option Operand} (ho : o.op = .slice ty x lo hi mx) (hty : P.underlying ty = some (.slice e)) {inf : TypeInfo} (hi' : P.info? e = some inf)
    {ad : Option Addr} {len cap l h m : Nat} (hu : a.eval x = .slice ad len cap)
    (hb : (Instr.sliceBounds true len cap (lo.map a.eval) (hi.map a.eval) (mx.map a.eval)).run P w = .ok (l, h, m) w) :
    (execOp a.eval o).run P w = .ok (.value (.slice (if m = l then ad else ad.map (·.add (l * inf.size))) (h - l) (m - l))) w := by
  simp [execOp, ho, hu, Instr.sliceAt, Instr.slice, run_underlying hty, hb, sizeOf, typeInfo, hi']

theorem op_slice_rs {ty e : TypeId} {x : Operand} {lo hi mx : Option Operand} (ho : o.op = .slice ty x lo hi mx) (hty : P.underlying ty = some (.slice e)) {inf : TypeInfo} (hinf : P.info? e = some inf)
    {x' : LX} {lo' hi' mx' : Option LX} (hx' : compX x = some x') (hlo : compO lo = some lo') (hhi : compO hi = some hi') (hmx : compO mx = some mx') {q off len : Nat} (hs : x'.ev t = .rs q off len)
    (hmn : mx' = none) {hh l : Nat} (h1 : bnd len (hi'.map (LX.ev t)) len = some hh) (h2 : bnd hh (lo'.map (LX.ev t)) 0 = some l) (hl : l < len) {es el : List (List LV)} (hst : st[q]? = some (.row es))
    {e0 : List LV} (he0 : es[off]? = some e0) (he0s : e0.length = inf.size)
    (h : WR G st w) (hx : XsR G t a o.op) : OpTo P o a w (Good G st w (.rs q (off + l) (hh - l)) st) := by
  have e1 := hx x (by rw [ho]; simp [Op.operands]) x' hx'
  rw [hs] at e1
  obtain ⟨blk, size, n, cap, hloc, hu, hm, hlc, hn⟩ := e1.rs_inv
  obtain ⟨blk', size', n', e5, arr, ty', hb, hz, hmm, hr⟩ := h.row q es hst _ hloc
  cases e5
  have hse : size = inf.size := (hr.1 e0 (List.mem_of_getElem? he0)).symm.trans he0s
  have hbo := run_bounds (P := P) (G := G) (t := t) (a := a) hlo hhi hmx (fun x hc y hy => hx x (by rw [ho]; rcases hc with rfl | rfl | rfl <;> simp [Op.operands]) y hy) hlc (by simp [hmn]) (by rw [hmn]; rfl) h1 h2 w
  obtain ⟨b0, b1, b2, b3, b4, b5⟩ := hbo
  rw [hmn] at b0
  refine opTo_value (run_sliceOp ho hty hinf hu b0) (.same h ?_)
  simp only [Option.isSome_none, if_false, Bool.false_eq_true]
  rw [if_neg (by omega)]
  simp only [Option.map_some, Addr.add_lit]
  subst hse
  rw [← Nat.add_mul]
  exact .rs hloc (by omega) (by omega) (by omega)

theorem op_slice_v {ty e : TypeId} {x : Operand} {lo hi mx : Option Operand} (ho : o.op = .slice ty x lo hi mx) (hty : P.underlying ty = some (.slice e)) {inf : TypeInfo} (hinf : P.info? e = some inf)
    {x' : LX} {lo' hi' mx' : Option LX} (hx' : compX x = some x') (hlo : compO lo = some lo') (hhi : compO hi = some hi') (hmx : compO mx = some mx')
    (hr : lslice (x'.ev t) (lo'.map (LX.ev t)) (hi'.map (LX.ev t)) (mx'.map (LX.ev t)) = some v) {es : List (List PV)} (hes : (x'.ev t).asSl = some es) (hsz : ∀ e ∈ es, e.length = inf.size)
    (h : WR G st w) (hx : XsR G t a o.op) : OpTo P o a w (Good G st w v st) := by
  have e1 := hx x (by rw [ho]; simp [Op.operands]) x' hx'
  have hvp := asSl_sound hes e1
  -- what LS does
  have hls : (if (mx'.map (LX.ev t)).isSome ∧ (hi'.map (LX.ev t)).isNone then none else match bnd es.length (mx'.map (LX.ev t)) es.length with
      | none => none
      | some m => match bnd m (hi'.map (LX.ev t)) es.length with
        | none => none
        | some h => match bnd h (lo'.map (LX.ev t)) 0 with
          | none => none
          | some l =>
            if (mx'.map (LX.ev t)).isSome ∧ h = m then some (.tight ((es.take h).drop l))
            else if (mx'.map (LX.ev t)).isNone ∧ h = es.length ∧ l < es.length then
              (match x'.ev t with
               | .sl es t fin => some (.sl (es.drop l) t fin)
               | .tight es => some (.tight (es.drop l))
               | _ => some (.p (.sl (es.drop l))))
            else some (.p (.sl ((es.take h).drop l)))) = some v := by
    rw [← hr]
    revert hes
    generalize x'.ev t = lv
    intro hes
    unfold LV.asSl at hes
    split at hes <;> cases hes <;> rfl
  split at hls
  · cases hls
  rename_i hmh
  split at hls
  · cases hls
  rename_i m hbm
  split at hls
  · cases hls
  rename_i hh hbh
  split at hls
  · cases hls
  rename_i l hbl
  have hmh' : ¬ (mx'.isSome = true ∧ hi'.isNone = true) := by simpa using hmh
  have hxx : ∀ x, (lo = some x ∨ hi = some x ∨ mx = some x) → ∀ y, compX x = some y → VL G (y.ev t) (a.eval x) :=
    fun x hc y hy => hx x (by rw [ho]; rcases hc with rfl | rfl | rfl <;> simp [Op.operands]) y hy
  generalize hu : a.eval x = u at e1 hvp
  rcases hvp.slice with ⟨rfl, rfl⟩ | ⟨size, b, off, cap, rfl, h1, h2, h3, vals, h4, h5⟩ | ⟨rfl, ad, cap, rfl, hcm⟩
  · -- nil
    obtain ⟨b0, b1, b2, b3, b4, b5⟩ := run_bounds (P := P) (G := G) (t := t) (a := a) hlo hhi hmx hxx (Nat.le_refl 0) hmh' hbm hbh hbl w
    try simp only [List.length_nil] at b1 b3
    have hl : l = 0 := by omega
    have hhh : hh = 0 := by omega
    have hm0 : m = 0 := by omega
    subst hl hhh hm0
    have hrun := run_sliceOp ho hty hinf hu b0
    simp at hrun
    refine opTo_value hrun (.same h ?_)
    simp at hls
    split at hls <;> cases hls
    · exact .tight (es := []) .nils
    · exact .p .nils
  · obtain ⟨b0, b1, b2, b3, b4, b5⟩ := run_bounds (P := P) (G := G) (t := t) (a := a) hlo hhi hmx hxx h1 hmh' hbm hbh hbl w
    have hrun := run_sliceOp ho hty hinf hu b0
    simp only [Option.map_some, Addr.add_lit] at hrun
    have hsub : ∀ m', hh ≤ m' → m' ≤ cap → VP G.F (.sl ((es.take hh).drop l)) (.slice (if m' = l then some ⟨b, off, none⟩ else some ⟨b, off + l * inf.size, none⟩) (hh - l) (m' - l)) :=
      fun m' c1 c2 => hvp.sub hsz b4 b3 c1 c2
    have hlen : ((es.take hh).drop l).length = hh - l := by simp; omega
    refine opTo_value hrun (.same h ?_)
    cases hmx' : mx' with
    | some mm =>
      have hle : hh ≤ m := by rcases b2 with b2 | ⟨e, _⟩; · exact b2
                              · rw [hmx'] at e; cases e
      rw [hmx'] at hls
      simp only [Option.map_some, Option.isSome_some, true_and, Option.isNone_some, Bool.false_eq_true, false_and, if_false, if_true] at hls ⊢
      have hs := hsub m hle (by omega)
      split at hls
      · rename_i hhm
        cases hls
        subst hhm
        rw [← hlen] at hs ⊢
        exact .tight hs
      · cases hls; exact .p hs
    | none =>
      have hs := hsub cap (by omega) (Nat.le_refl _)
      rw [hmx'] at hls
      simp only [Option.map_none, Option.isSome_none, Bool.false_eq_true, false_and, if_false, Option.isNone_none, true_and] at hls ⊢
      split at hls
      · rename_i hc
        obtain ⟨hhe, hlt⟩ := hc
        subst hhe
        rw [List.take_length] at hs hlen
        rw [if_neg (by omega)] at hs ⊢
        revert hls e1
        generalize x'.ev t = lv at hes
        intro e1 hls
        split at hls
        · rename_i es0 t0 fin
          simp only [LV.asSl] at hes; cases hes
          cases hls
          obtain ⟨sz, b', off', cap', hueq, _, g2, g3, g4⟩ := e1.sl_inv
          cases hueq
          rw [← hlen] at hs ⊢
          have hse : sz = inf.size := by
            have hm : es[0]'(by omega) ∈ es := List.getElem_mem _
            rw [← g3 _ hm, hsz _ hm]
          refine .sl (size := sz) hs (by omega) (fun e he => g3 e (List.mem_of_mem_drop he)) ?_
          rw [g4]
          simp only [List.length_drop, Option.some.injEq, Sp.mk.injEq, true_and, and_true]
          subst hse
          rw [Nat.sub_mul]
          have : l * inf.size ≤ es.length * inf.size := Nat.mul_le_mul_right _ (by omega)
          omega
        · simp only [LV.asSl] at hes; cases hes
          cases hls
          cases e1 with
          | tight g1 => rw [← hlen] at hs ⊢; exact .tight hs
        · cases hls; exact .p hs
      · cases hls; exact .p hs
  · -- nothing, at some place
    obtain ⟨b0, b1, b2, b3, b4, b5⟩ := run_bounds (P := P) (G := G) (t := t) (a := a) hlo hhi hmx hxx (Nat.zero_le cap) hmh' hbm hbh hbl w
    try simp only [List.length_nil] at b1 b3
    have hl : l = 0 := by omega
    have hhh : hh = 0 := by omega
    have hm0 : m = 0 := by omega
    subst hl hhh hm0
    have hrun := run_sliceOp ho hty hinf hu b0
    have hadd : ad.add 0 = ad := by simp [Addr.add]
    simp only [Option.map_some, Nat.zero_mul, hadd, ite_self] at hrun
    refine opTo_value hrun (.same h ?_)
    cases hmm : mx' with
    | none =>
      simp [hmm] at hls ⊢
      subst hls
      exact .p (.sl0 _ _ hcm)
    | some y =>
      simp [hmm] at hls ⊢
      subst hls
      exact .tight (es := []) (.sl0 _ _ (by simp))

/-! Conversions. -/
theorem unb_inv {e : List PV} {b : UInt8} (h : unb e = some b) : ∃ n : Int, e = [.int .u8 n] ∧ b = UInt8.ofNat n.toNat := by
  unfold unb at h
  split at h
  · cases h; exact ⟨_, rfl, rfl⟩
  · cases h

theorem unbs_inv : ∀ {es : List (List PV)} {l : List UInt8}, unbs es = some l → ∃ ns : List Int, es = ns.map (fun n => [PV.int .u8 n]) ∧ l = ns.map (fun n => UInt8.ofNat n.toNat)
  | [], l, h => by simp only [unbs] at h; cases h; exact ⟨[], rfl, rfl⟩
  | e :: r, l, h => by
    simp only [unbs] at h
    split at h
    · rename_i b l' hb hl
      cases h
      obtain ⟨n, rfl, rfl⟩ := unb_inv hb
      obtain ⟨ns, rfl, rfl⟩ := unbs_inv hl
      exact ⟨n :: ns, rfl, rfl⟩
    · cases h

theorem foldl_push (ns : List Int) : ∀ (r : ByteArray), ns.foldl (fun r n => r.push (UInt8.ofNat n.toNat)) r = ⟨r.data ++ (ns.map fun n => UInt8.ofNat n.toNat).toArray⟩ := by
  induction ns with
  | nil => intro r; simp
  | cons n ns ih => intro r; rw [List.foldl_cons, ih]; simp [ByteArray.push]

theorem op_b2s {src dst e : TypeId} {x : Operand} (ho : o.op = .convert src dst x) (hs : P.underlying src = some (.slice e)) (he : P.underlying e = some (.int .u8)) (hd : P.underlying dst = some .string)
    {y : LX} (hy : compX x = some y) {es : List (List PV)} (hes : (y.ev t).asSl = some es) {l : List UInt8} (hl : unbs es = some l) (h : WR G st w) (hx : XsR G t a o.op) :
    OpTo P o a w (Good G st w (.p (.str l)) st) := by
  have h1 := asSl_sound hes (hx x (by rw [ho]; simp [Op.operands]) y hy)
  obtain ⟨ns, rfl, rfl⟩ := unbs_inv hl
  refine opTo_value (u := .string ⟨(ns.map fun n => UInt8.ofNat n.toNat).toArray⟩) (w' := w) ?_ (.same h (.p (.str _)))
  rcases h1.slice with ⟨e0, hu⟩ | ⟨size, b, off, cap, hu, g1, g2, g3, vals, g4, g5⟩ | ⟨e0, ad, cap, hu, _⟩
  · have : ns = [] := by simpa using e0
    subst this
    simp only [execOp, ho, hu, Sem.run_bind, run_convert_bytes_string w src dst e none 0 0 hs he hd]
    simp [Conv.bytesToString]
    rfl
  · simp only [List.length_map] at hu
    have hcell : ∀ j v, (ns.map (Value.int .u8))[j]? = some v → w.cell? ((⟨b, off, none⟩ : Addr).add j) = some v := by
      intro j v hv
      rw [List.getElem?_map] at hv
      cases hq : ns[j]? with
      | none => simp [hq] at hv
      | some n =>
        simp [hq] at hv; subst hv
        have hat : at2 (ns.map (fun n => [PV.int .u8 n])) j 0 = some (.int .u8 n) := by simp [at2, hq]
        have hsz : size = 1 := by rw [← g3 [.int .u8 n] (List.mem_of_getElem? (by rw [List.getElem?_map, hq]; rfl))]; rfl
        have h4 := g4 _ _ _ hat
        have h5 := g5 _ _ _ hat
        rw [h5.int_inv] at h4
        subst hsz
        have := h.fr _ _ _ h4
        rw [Addr.add_lit]
        simpa using this
    have hlc := run_loadCells_list (P := P) w ⟨b, off, none⟩ (ns.map (Value.int .u8)) hcell
    rw [List.length_map] at hlc
    simp only [execOp, ho, hu, Sem.run_bind, run_convert_bytes_string w src dst e _ _ _ hs he hd, run_bytesToString w _ _ _ ns hlc, foldl_push]
    simp
  · have : ns = [] := by simpa using e0
    subst this
    simp only [execOp, ho, hu, Sem.run_bind, run_convert_bytes_string w src dst e (some ad) 0 cap hs he hd]
    simp [Conv.bytesToString]
    rfl

end ops
end Go.LS
