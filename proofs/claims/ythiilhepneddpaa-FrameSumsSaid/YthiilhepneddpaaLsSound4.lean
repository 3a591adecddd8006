/- Slices: conversions, slices of slices, append. -/
import Derived.Test.YthiilhepneddpaaLsSound3
set_option linter.unusedVariables false
set_option linter.unusedSimpArgs false
namespace Go.LS
section ops
variable {P : Program} {G : Gh} {st st' : List LObj} {w : World} {t : List LV} {a : Act} {o : Oper} {v : LV}

theorem VP.mk {F : Nat → Nat → Option Value} {es : List (List PV)} {size b off cap : Nat} (h1 : es.length ≤ cap) (h2 : cap ≤ maxLen) (h3 : ∀ e ∈ es, e.length = size)
    (h : ∀ i j p, at2 es i j = some p → ∃ y, F b (off + i * size + j) = some y ∧ VP F p y) : VP F (.sl es) (.slice (some ⟨b, off, none⟩) es.length cap) := by
  refine .sl es size b off cap (fun i j => (F b (off + i * size + j)).getD undef) h1 h2 h3 ?_ ?_
  · intro i j p hp
    obtain ⟨y, hy, _⟩ := h i j p hp
    simp [hy]
  · intro i j p hp
    obtain ⟨y, hy, hv⟩ := h i j p hp
    simpa [hy] using hv

theorem VP.get {F : Nat → Nat → Option Value} {es : List (List PV)} {size b off n cap : Nat} (h : VP F (.sl es) (.slice (some ⟨b, off, none⟩) n cap)) (hs : ∀ e ∈ es, e.length = size) :
    n = es.length ∧ es.length ≤ cap ∧ cap ≤ maxLen ∧ ∀ i j p, at2 es i j = some p → ∃ y, F b (off + i * size + j) = some y ∧ VP F p y := by
  rcases h.slice with ⟨_, hu⟩ | ⟨size', b', off', cap', hu, h1, h2, h3, vals, h4, h5⟩ | ⟨rfl, ad, cap', hu, hm⟩
  · cases hu
  · cases hu
    refine ⟨rfl, h1, h2, fun i j p hp => ?_⟩
    have : size' = size := by
      unfold at2 at hp
      cases hq : es[i]? with
      | none => simp [hq] at hp
      | some e => have hm := List.mem_of_getElem? hq; rw [← h3 e hm, hs e hm]
    subst this
    exact ⟨_, h4 i j p hp, h5 i j p hp⟩
  · cases hu
    exact ⟨rfl, by simp, hm, fun i j p hp => by simp [at2] at hp⟩

theorem at2_lt {α : Type} {es : List (List α)} {size i j : Nat} {p : α} (hs : ∀ e ∈ es, e.length = size) (h : at2 es i j = some p) : i < es.length ∧ j < size := by
  unfold at2 at h
  cases hq : es[i]? with
  | none => simp [hq] at h
  | some e =>
    simp [hq] at h
    have := hs e (List.mem_of_getElem? hq)
    have h1 := (List.getElem?_eq_some_iff.1 hq).1
    have h2 := (List.getElem?_eq_some_iff.1 h).1
    exact ⟨h1, by omega⟩

theorem at2_append {α : Type} {es xs : List (List α)} {i j : Nat} {p : α} (h : at2 (es ++ xs) i j = some p) : (i < es.length ∧ at2 es i j = some p) ∨ (es.length ≤ i ∧ at2 xs (i - es.length) j = some p) := by
  unfold at2 at h ⊢
  by_cases hi : i < es.length
  · rw [List.getElem?_append_left hi] at h; exact .inl ⟨hi, h⟩
  · rw [List.getElem?_append_right (by omega)] at h; exact .inr ⟨by omega, h⟩

theorem at2_sub {α : Type} {es : List (List α)} {h l i j : Nat} {p : α} (hp : at2 ((es.take h).drop l) i j = some p) : at2 es (l + i) j = some p ∧ l + i < h := by
  unfold at2 at hp ⊢
  rw [List.getElem?_drop, List.getElem?_take] at hp
  split at hp
  · exact ⟨hp, ‹_›⟩
  · simp at hp

theorem sub_sized {es : List (List PV)} {size h l : Nat} (hs : ∀ e ∈ es, e.length = size) : ∀ e ∈ (es.take h).drop l, e.length = size :=
  fun e he => hs e (List.mem_of_mem_take (List.mem_of_mem_drop he))

/-- A slice of a slice. -/
theorem VP.sub {F : Nat → Nat → Option Value} {es : List (List PV)} {size b off n cap h l m : Nat} (hv : VP F (.sl es) (.slice (some ⟨b, off, none⟩) n cap)) (hs : ∀ e ∈ es, e.length = size)
    (h1 : l ≤ h) (h2 : h ≤ es.length) (h3 : h ≤ m) (h4 : m ≤ cap) :
    VP F (.sl ((es.take h).drop l)) (.slice (if m = l then some ⟨b, off, none⟩ else some ⟨b, off + l * size, none⟩) (h - l) (m - l)) := by
  obtain ⟨rfl, _, hm, hg⟩ := hv.get hs
  have hlen : ((es.take h).drop l).length = h - l := by simp; omega
  rw [← hlen]
  split
  · refine .mk (size := size) (by omega) (by omega) (sub_sized hs) ?_
    intro i j p hp
    have := at2_lt (sub_sized hs) hp
    omega
  · refine .mk (size := size) (by omega) (by omega) (sub_sized hs) ?_
    intro i j p hp
    obtain ⟨e1, e2⟩ := at2_sub hp
    obtain ⟨y, hy, hv⟩ := hg (l + i) j p e1
    refine ⟨y, ?_, hv⟩
    rw [← hy]
    congr 1
    rw [Nat.add_mul]; omega

/-- A bound that may be left out. -/
theorem run_bound {ox : Option Operand} {oy : Option LX} (hc : compO ox = some oy) (hx : ∀ x, ox = some x → ∀ y, compX x = some y → VL G (y.ev t) (a.eval x)) {y d r : Nat}
    (hb : bnd y (oy.map (LX.ev t)) d = some r) : (ox = none ∧ oy = none ∧ r = d) ∨ ∃ x k n, ox = some x ∧ oy.isSome = true ∧ a.eval x = .int k n ∧ 0 ≤ n ∧ n ≤ y ∧ r = n.toNat := by
  cases ox with
  | none => simp only [compO] at hc; cases hc; simp only [Option.map_none, bnd] at hb; cases hb; exact .inl ⟨rfl, rfl, rfl⟩
  | some x =>
    simp only [compO] at hc
    split at hc
    · rename_i y' hy
      cases hc
      have := hx x rfl y' hy
      simp only [Option.map_some] at hb
      generalize y'.ev t = lv at this hb
      cases lv with
      | p pv => cases pv with
        | int k n =>
          simp only [bnd] at hb
          split at hb
          · rename_i hn; cases hb; exact .inr ⟨x, k, n, rfl, rfl, this.int_inv, hn.1, hn.2, rfl⟩
          · cases hb
        | _ => simp [bnd] at hb
      | _ => simp [bnd] at hb
    · cases hc

theorem op_slice_str {ty : TypeId} {x : Operand} {lo hi mx : Option Operand} (ho : o.op = .slice ty x lo hi mx) (hty : P.underlying ty = some .string) {x' : LX} {lo' hi' mx' : Option LX}
    (hx' : compX x = some x') (hlo : compO lo = some lo') (hhi : compO hi = some hi') (hmx : compO mx = some mx') {s : List UInt8} (hs : x'.ev t = .p (.str s)) (hmn : (mx'.map (LX.ev t)).isSome = false)
    {hh l : Nat} (h1 : bnd s.length (hi'.map (LX.ev t)) s.length = some hh) (h2 : bnd hh (lo'.map (LX.ev t)) 0 = some l)
    (h : WR G st w) (hx : XsR G t a o.op) : OpTo P o a w (Good G st w (.p (.str ((s.take hh).drop l))) st) := by
  have e1 := hx x (by rw [ho]; simp [Op.operands]) x' hx'
  rw [hs] at e1
  have hu := e1.str_inv
  have b1 := run_bound (a := a) (G := G) hhi (fun x e y hy => hx x (by rw [ho]; simp [Op.operands, e]) y hy) h1
  have b2 := run_bound (a := a) (G := G) hlo (fun x e y hy => hx x (by rw [ho]; simp [Op.operands, e]) y hy) h2
  have hmx0 : mx = none := by
    cases mx with
    | none => rfl
    | some z =>
      simp only [compO] at hmx
      split at hmx
      · cases hmx; simp at hmn
      · cases hmx
  subst hmx0
  have hres : (⟨((s.take hh).drop l).toArray⟩ : ByteArray) = (⟨s.toArray⟩ : ByteArray).extract l hh := by
    apply ByteArray.ext
    apply Array.ext'
    simp [List.drop_take]
  refine opTo_value (u := .string ⟨((s.take hh).drop l).toArray⟩) (w' := w) ?_ (.same h (.p (.str _)))
  rw [hres]
  rcases b1 with ⟨rfl, _, rfl⟩ | ⟨xh, kh, nh, rfl, _, uh, a1, a2, rfl⟩ <;> rcases b2 with ⟨rfl, _, rfl⟩ | ⟨xl, kl, nl, rfl, _, ul, c1, c2, rfl⟩
  · simp [execOp, ho, hu, Instr.sliceAt, Instr.slice, Instr.sliceBounds, run_underlying hty]
    try simpa using hres
  · have : (Instr.sliceBound (.int kl nl) s.length .sliceB).run P w = .ok nl.toNat w := run_sliceBound w kl nl s.length .sliceB c1 c2
    simp [execOp, ho, hu, Instr.sliceAt, Instr.slice, Instr.sliceBounds, run_underlying hty, ul, this]
  · have : (Instr.sliceBound (.int kh nh) s.length .sliceAlen).run P w = .ok nh.toNat w := run_sliceBound w kh nh s.length .sliceAlen a1 a2
    simp [execOp, ho, hu, Instr.sliceAt, Instr.slice, Instr.sliceBounds, run_underlying hty, uh, this]
  · have : (Instr.sliceBound (.int kh nh) s.length .sliceAlen).run P w = .ok nh.toNat w := run_sliceBound w kh nh s.length .sliceAlen a1 a2
    have h3 : (Instr.sliceBound (.int kl nl) nh.toNat .sliceB).run P w = .ok nl.toNat w := run_sliceBound w kl nl _ .sliceB c1 c2
    simp [execOp, ho, hu, Instr.sliceAt, Instr.slice, Instr.sliceBounds, run_underlying hty, uh, ul, this, h3]

/-- The bounds of a slice of a slice, as the machine finds them. -/
theorem run_bounds {lo hi mx : Option Operand} {lo' hi' mx' : Option LX} (hlo : compO lo = some lo') (hhi : compO hi = some hi') (hmx : compO mx = some mx')
    (hx : ∀ x, (lo = some x ∨ hi = some x ∨ mx = some x) → ∀ y, compX x = some y → VL G (y.ev t) (a.eval x)) {len cap m h l : Nat} (hlc : len ≤ cap) (hmh : ¬ (mx'.isSome = true ∧ hi'.isNone = true))
    (h1 : bnd len (mx'.map (LX.ev t)) len = some m) (h2 : bnd m (hi'.map (LX.ev t)) len = some h) (h3 : bnd h (lo'.map (LX.ev t)) 0 = some l) (w : World) :
    (Instr.sliceBounds true len cap (lo.map a.eval) (hi.map a.eval) (mx.map a.eval)).run P w = .ok (l, h, if mx'.isSome then m else cap) w ∧ m ≤ len ∧ (h ≤ m ∨ (mx' = none ∧ h = len)) ∧ h ≤ len ∧ l ≤ h ∧ (mx' = none → m = len) := by
  have b1 := run_bound (a := a) (G := G) hmx (fun x e y hy => hx x (.inr (.inr e)) y hy) h1
  have b2 := run_bound (a := a) (G := G) hhi (fun x e y hy => hx x (.inr (.inl e)) y hy) h2
  have b3 := run_bound (a := a) (G := G) hlo (fun x e y hy => hx x (.inl e) y hy) h3
  rcases b1 with ⟨rfl, rfl, rfl⟩ | ⟨xm, km, nm, rfl, sm, um, m1, m2, rfl⟩
  · -- no third bound
    rcases b2 with ⟨rfl, rfl, rfl⟩ | ⟨xh, kh, nh, rfl, sh, uh, a1, a2, rfl⟩ <;> rcases b3 with ⟨rfl, rfl, rfl⟩ | ⟨xl, kl, nl, rfl, sl, ul, c1, c2, rfl⟩
    · exact ⟨by simp [Instr.sliceBounds], by omega, .inr ⟨rfl, rfl⟩, by omega, by omega, fun _ => rfl⟩
    · have g3 : (Instr.sliceBound (.int kl nl) h .sliceB).run P w = .ok nl.toNat w := run_sliceBound w kl nl _ .sliceB c1 c2
      exact ⟨by simp [Instr.sliceBounds, ul, g3], by omega, .inr ⟨rfl, rfl⟩, by omega, by omega, fun _ => rfl⟩
    · have g3 : (Instr.sliceBound (.int kh nh) cap .sliceAcap).run P w = .ok nh.toNat w := run_sliceBound w kh nh _ .sliceAcap a1 (by omega)
      exact ⟨by simp [Instr.sliceBounds, uh, g3], by omega, .inl (by omega), by omega, by omega, fun _ => rfl⟩
    · have g3 : (Instr.sliceBound (.int kh nh) cap .sliceAcap).run P w = .ok nh.toNat w := run_sliceBound w kh nh _ .sliceAcap a1 (by omega)
      have g4 : (Instr.sliceBound (.int kl nl) nh.toNat .sliceB).run P w = .ok nl.toNat w := run_sliceBound w kl nl _ .sliceB c1 c2
      exact ⟨by simp [Instr.sliceBounds, uh, ul, g3, g4], by omega, .inl (by omega), by omega, by omega, fun _ => rfl⟩
  · rcases b2 with ⟨rfl, rfl, rfl⟩ | ⟨xh, kh, nh, rfl, sh, uh, a1, a2, rfl⟩
    · simp [sm] at hmh
    · have g0 : (Instr.sliceBound (.int km nm) cap .slice3Acap).run P w = .ok nm.toNat w := run_sliceBound w km nm _ .slice3Acap m1 (by omega)
      have g3 : (Instr.sliceBound (.int kh nh) nm.toNat .slice3B).run P w = .ok nh.toNat w := run_sliceBound w kh nh _ .slice3B a1 (by omega)
      have hns : mx' ≠ none := by intro e; rw [e] at sm; cases sm
      rcases b3 with ⟨rfl, rfl, rfl⟩ | ⟨xl, kl, nl, rfl, sl, ul, c1, c2, rfl⟩
      · exact ⟨by simp [Instr.sliceBounds, um, uh, g0, g3, sm], by omega, .inl (by omega), by omega, by omega, fun e => absurd e hns⟩
      · have g4 : (Instr.sliceBound (.int kl nl) nh.toNat .slice3C).run P w = .ok nl.toNat w := run_sliceBound w kl nl _ .slice3C c1 c2
        exact ⟨by simp [Instr.sliceBounds, um, uh, ul, g0, g3, g4, sm], by omega, .inl (by omega), by omega, by omega, fun e => absurd e hns⟩

end ops
end Go.LS
