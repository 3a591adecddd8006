/- A small semantics of loaded Go code that the kernel can run, part 6. -/
import Derived.Test.YtmbjojnldbeicaaLsG5
set_option linter.unusedVariables false
set_option linter.unusedSimpArgs false
namespace Go.LS
def Kt : Option Val → List PV
 | none => [.bool false, .int .i64 0, .int .i64 0, .str [], .sl [], .sl []]
 | some (.mk k n s is ns) => [.bool true, .int .i64 k, .int .i64 n, .str s, .sl (Ad is), .sl (Ak ns)]
def Ai (L : List (Option Val)) : List (List PV) := L.map Kt
theorem Yw (o : Option Val) : (Kt o).length = 6 := by
 cases o with
 | none => rfl
 | some v => obtain ⟨k, n, s, is, ns⟩ := v; rfl
theorem Gy (L : List (Option Val)) : (Ai L).length = L.length := by simp [Ai]
theorem Qy (a b : List (Option Val)) : Ai (a ++ b) = Ai a ++ Ai b := by simp [Ai]
theorem Sz {L : List (Option Val)} {i : Nat} (h : i < L.length) : (Ai L)[i]? = some (Kt (Au L i)) := by
 have := Jp h
 simp [Ai, this]
theorem Vg (L : List (Option Val)) : Hf 6 (Ai L) = true := by
 simp only [Hf, Ai, List.all_map]
 rw [List.all_eq_true]
 intro o _
 simp [Yw]
theorem rowsE_ne {L : List (Option Val)} (h : L ≠ []) : Ai L ≠ [] := fun hh => h (by cases L with | nil => rfl | cons a b => simp [Ai] at hh)
theorem Vh {v : LV} {L : List (Option Val)} {i : Nat} {st : List LObj} (hv : v.asSl = some (Ai L)) (hr : v.isRs = false) (h : i < L.length) (hn : (Au L i).isSome = false) {j : Int} (hj : j = ((i : Nat) : Int)) :
  Ao A0 [] st (.indexAddr 6 (.const v) (.const (.p (.int .i64 j)))) = some (.pin [.bool false, .int .i64 0, .int .i64 0, .str [], .sl [], .sl []] 0, st) := by
 subst hj
 cases hq : Au L i with
 | some v => rw [hq] at hn; cases hn
 | none =>
  have := Sz h
  rw [hq] at this
  exact At hv hr this rfl
theorem Vi {v : LV} {L : List (Option Val)} {i : Nat} {st : List LObj} (hv : v.asSl = some (Ai L)) (hr : v.isRs = false) (h : i < L.length) (hn : (Au L i).isSome = true) {j : Int} (hj : j = ((i : Nat) : Int)) :
  Ao A0 [] st (.indexAddr 6 (.const v) (.const (.p (.int .i64 j)))) = some (.pin [.bool true, .int .i64 (kV ((Au L i).getD A4)), .int .i64 (nV ((Au L i).getD A4)), .str (sV ((Au L i).getD A4)), .sl (Ad (iV ((Au L i).getD A4))), .sl (Ak (mV ((Au L i).getD A4)))] 0, st) := by
 subst hj
 cases hq : Au L i with
 | none => rw [hq] at hn; cases hn
 | some w =>
  have := Sz h
  rw [hq] at this
  obtain ⟨a, b, c, d, e⟩ := w
  exact At hv hr this rfl
theorem Ok {tg : Nat} {L : List (Option Val)} (x : Option Val) {st : List LObj} (hs : st[tg]? = some (.spare 6 (List.length (Ai L)))) (hb : L.length + 1 ≤ 1000000000000) :
  Ao A0 [] st (.append false 6 88 (.const (.sl (Ai L) tg (List.length (Ai L)))) (.const (.tight [Kt x]))) =
   some (.sl (Ai (L ++ [x])) tg (List.length (Ai (L ++ [x]))), st.set tg (.spare 6 (List.length (Ai (L ++ [x]))))) := by
 have := Jf (size := 6) (bytes := 88) (tg := tg) (E := Ai L) (X := [Kt x]) (st := st) (x := .tight [Kt x]) hs rfl (Vg [x])
  (by rw [Gy]; simp; omega) (by rw [Gy]; simp; omega) (by decide)
 rw [this, Qy]
 rfl
theorem Ol (x : Option Val) {st : List LObj} :
  Ao A0 [] st (.append false 6 88 (.const (.tight [])) (.const (.tight [Kt x]))) =
   some (.sl (Ai [x]) st.length (List.length (Ai [x])), st ++ [.spare 6 (List.length (Ai [x]))]) := by
 exact Fy (size := 6) (bytes := 88) (E := []) (X := [Kt x]) (st := st) (x := .tight [Kt x]) rfl rfl (Vg [x]) (by simp) (by simp) (by simp) (by decide)
theorem Om {tg f : Nat} {L : List (Option Val)} {st : List LObj} (h : L ≠ []) (hb : L.length ≤ 1000000000000) :
  Ao A0 [] st (.append false 6 88 (.const (.tight [])) (.const (.sl (Ai L) tg f))) = some (.sl (Ai L) st.length (List.length (Ai L)), st ++ [.spare 6 (List.length (Ai L))]) := by
 have := Fy (size := 6) (bytes := 88) (E := []) (X := Ai L) (st := st) (x := .sl (Ai L) tg f) rfl rfl (Vg L) (rowsE_ne h) (by rw [Gy]; simp; omega) (by rw [Gy]; simp; omega) (by decide)
 simpa using this
def A5 (xb : Int) (L : List (Option Val)) : Int := xb + L.length
def Dm (kp xb : Int) (L : List (Option Val)) (i : Int) : Bool := decide (i > xb) && (decide (i ≤ A5 xb L) && decide (i > A5 xb L - kp))
def Ay (kp xb : Int) (L : List (Option Val)) (i : Int) : Val × Int × Int :=
 if i < 1 ∨ i > A5 xb L then (A4, 0, 4) else if Dm kp xb L i = false then (A4, 3, 0) else
  match Au L (i - xb - 1).toNat with
  | some v => (v, 2, 0)
  | none => (A4, 1, 0)
structure InvI (kp t : Int) (R : List (Option Val)) (xb : Int) (L : List (Option Val)) : Prop where
 k0 : 0 ≤ kp
 len : R.length = kp.toNat
 b0 : 0 ≤ xb
 top : t = xb + L.length
 at_ : ∀ i, xb < i → i ≤ t → t - kp < i → Au R (Int.toNat (Int.tmod i kp)) = Au L (i - xb - 1).toNat
def BaseI (kp b t xb : Int) : Prop := 0 ≤ b ∧ b ≤ xb ∧ (b = xb ∨ xb ≤ t - kp)
theorem InvI.new {kp b : Int} (hk : 0 ≤ kp) (hb : 0 ≤ b) : InvI kp b (List.replicate kp.toNat none) b [] :=
 ⟨hk, by simp, hb, by simp, fun i h1 h2 _ => by omega⟩
theorem BaseI.refl {kp b t : Int} (h : 0 ≤ b) : BaseI kp b t b := ⟨h, Int.le_refl _, .inl rfl⟩
theorem BaseI.next {kp b t xb : Int} (h : BaseI kp b t xb) : BaseI kp b (t + 1) xb := ⟨h.1, h.2.1, h.2.2.imp id (fun h => by omega)⟩
theorem mod_ne {i t kp : Int} (hi : 0 ≤ i) (h1 : i < t) (h2 : t - kp < i) : Int.toNat (Int.tmod i kp) ≠ Int.toNat (Int.tmod t kp) := by
 rw [Int.tmod_eq_emod_of_nonneg hi, Int.tmod_eq_emod_of_nonneg (by omega)]
 intro h
 have hk : 0 < kp := by omega
 have e1 := Int.emod_nonneg i (show kp ≠ 0 by omega)
 have e2 := Int.emod_nonneg t (show kp ≠ 0 by omega)
 have h : i % kp = t % kp := by omega
 have hd : (t - i) % kp = 0 := by rw [Int.sub_emod, h, Int.sub_self]; simp
 rw [Int.emod_eq_of_lt (by omega) (by omega)] at hd
 omega
theorem Vj {L : List (Option Val)} {x : Option Val} {i : Nat} (h : i < L.length) : Au (L ++ [x]) i = Au L i := by
 simp [Au, List.getD, List.getElem?_append_left h]
theorem Vk {L : List (Option Val)} {x : Option Val} : Au (L ++ [x]) L.length = x := by simp [Au]
theorem InvI.note {kp t xb : Int} {R L : List (Option Val)} (h : InvI kp t R xb L) (x : Option Val) : InvI kp (t + 1) (Bj kp t R x) xb (L ++ [x]) := by
 obtain ⟨k0, len, b0, top, at_⟩ := h
 refine ⟨k0, ?_, b0, by simp; omega, fun i h1 h2 h3 => ?_⟩
 ·unfold Bj; split <;> simp [len]
 ·unfold Bj
  rw [if_pos (by omega)]
  by_cases he : i = t + 1
  ·subst he
   have hlt : Int.toNat (Int.tmod (t + 1) kp) < R.length := by
    rw [len, Int.tmod_eq_emod_of_nonneg (by omega)]
    have e1 := Int.emod_nonneg (t + 1) (show kp ≠ 0 by omega)
    have e2 := Int.emod_lt_of_pos (t + 1) (show 0 < kp by omega)
    omega
   have e : (t + 1 - xb - 1).toNat = L.length := by omega
   rw [e, Vk]
   unfold Au
   rw [List.getD, List.getElem?_set_self hlt]
   rfl
  ·have hlt : (i - xb - 1).toNat < L.length := by omega
   rw [Vj hlt, ← at_ i h1 (by omega) (by omega)]
   unfold Au
   rw [List.getD, List.getD, List.getElem?_set_ne (fun hh => mod_ne (i := i) (t := t + 1) (kp := kp) (by omega) (by omega) (by omega) hh.symm)]
theorem Ps {kp b t xb : Int} (hb : BaseI kp b t xb) : Bi kp b t = (if t - kp > xb then t - kp else xb) + 1 := by
 obtain ⟨h0, h1, h2⟩ := hb
 unfold Bi
 rcases h2 with h | h
 ·rw [h]
 ·split <;> split <;> omega
theorem get_eq {kp b t xb : Int} {R L : List (Option Val)} (h : InvI kp t R xb L) (hb : BaseI kp b t xb) (i : Int) : Av kp b t R i = Ay kp xb L i := by
 obtain ⟨k0, len, b0, top, at_⟩ := h
 unfold Av Ay Dm A5
 rw [Ps hb, ← top]
 by_cases h1 : i < 1 ∨ i > t
 ·rw [if_pos h1, if_pos h1]
 ·rw [if_neg h1, if_neg h1]
  by_cases h2 : i < (if t - kp > xb then t - kp else xb) + 1
  ·rw [if_pos h2, if_pos]
   split at h2
   ·simp; intro _ _; omega
   ·simp; intro _; omega
  ·rw [if_neg h2, if_neg]
   ·rw [at_ i (by split at h2 <;> omega) (by omega) (by split at h2 <;> omega)] <;> rfl
   ·split at h2 <;> simp <;> omega
def Jq : Option Val → List UInt8
 | none => [0]
 | some v => 1 :: Bu v
def Da (L : List (Option Val)) : List UInt8 := (L.map Jq).flatten
def F8 (kp : Int) (R : List (Option Val)) (i : Int) : Nat → List (Option Val)
 | 0 => []
 | n + 1 => Au R (Int.toNat (Int.tmod i kp)) :: F8 kp R (i + 1) n
theorem S0 {kp t xb : Int} {R L : List (Option Val)} (h : InvI kp t R xb L) : ∀ (n : Nat) (i : Int), xb < i → t - kp < i → i + n = t + 1 → F8 kp R i n = L.drop (i - xb - 1).toNat
 | 0, i, h1, h2, h3 => by
  have := h.top
  rw [List.drop_eq_nil_of_le (by omega)]; rfl
 | n + 1, i, h1, h2, h3 => by
  have := h.top
  have hlt : (i - xb - 1).toNat < L.length := by omega
  rw [F8, h.at_ i h1 (by omega) h2, S0 h n (i + 1) (by omega) (by omega) (by omega), List.drop_eq_getElem_cons hlt]
  have e : (i + 1 - xb - 1).toNat = (i - xb - 1).toNat + 1 := by omega
  rw [e]
  congr 1
  rw [Au, List.getD, List.getElem?_eq_getElem hlt]; rfl
structure OpI where
 k : Int
 v : Val
 b : Bool
def rowI (o : OpI) : List PV := [.int .i64 o.k] ++ rowV o.v ++ [.bool o.b]
def Ap (l : List OpI) : List (List PV) := l.map rowI
theorem Fi (l : List OpI) : (Ap l).length = l.length := by simp [Ap]
theorem A7 {l : List OpI} {i : Nat} {k kk n : Int} {s : List UInt8} {is : List Val} {ns : List (List UInt8)} {b : Bool} (h : l[i]? = some (OpI.mk k (.mk kk n s is ns) b)) :
  (Ap l)[i]? = some [.int .i64 k, .int .i64 kk, .int .i64 n, .str s, .sl (Ad is), .sl (Ak ns), .bool b] := by
 simp [Ap, h]; rfl
def okI1 (o : OpI) : Prop := okV o.v
theorem okOpI1 {Q : List PV → Prop} (hQ : ∀ {es : List (List PV)}, (∀ e ∈ es, Q e) → ∃ l : List Val, es = Ad l ∧ okL l) {e : List PV}
  (h : B6 [.int .i64, .int .i64, .int .i64, .str, .pr Q 80, .sl [.str] 16, .bool] e) : ∃ o : OpI, e = rowI o ∧ okI1 o := by
 obtain ⟨_, _, rfl, ⟨k, rfl, -, -⟩, _, _, rfl, ⟨a, rfl, a0⟩, _, _, rfl, ⟨b, rfl, b0⟩, _, _, rfl, ⟨s, rfl, hs⟩, _, _, rfl, ⟨es, rfl, e0⟩, _, _, rfl, ⟨ns, rfl, n0⟩, _, _, rfl, ⟨r, rfl⟩, rfl⟩ := h
 obtain ⟨v, hv, hv2⟩ := okVal1 hQ (e := [.int .i64 a, .int .i64 b, .str s, .sl es, .sl ns]) ⟨_, _, rfl, ⟨a, rfl, a0⟩, _, _, rfl, ⟨b, rfl, b0⟩, _, _, rfl, ⟨s, rfl, hs⟩, _, _, rfl, ⟨es, rfl, e0⟩, _, _, rfl, ⟨ns, rfl, n0⟩, rfl⟩
 refine ⟨⟨k, v, r⟩, ?_, hv2⟩
 simp only [rowI]
 rw [← hv]; rfl
theorem okOpsI {Q : List PV → Prop} (hQ : ∀ {es : List (List PV)}, (∀ e ∈ es, Q e) → ∃ l : List Val, es = Ad l ∧ okL l) : ∀ {es : List (List PV)},
  (∀ e ∈ es, B6 [.int .i64, .int .i64, .int .i64, .str, .pr Q 80, .sl [.str] 16, .bool] e) → ∃ l : List OpI, es = Ap l ∧ ∀ o ∈ l, okI1 o
 | [], _ => ⟨[], rfl, by simp⟩
 | e :: r, h => by
  obtain ⟨l, rfl, hl⟩ := okOpsI hQ (es := r) (fun x hx => h x (List.mem_cons_of_mem _ hx))
  obtain ⟨o, rfl, ho⟩ := okOpI1 hQ (h e (List.mem_cons_self ..))
  refine ⟨o :: l, rfl, fun x hx => ?_⟩
  rcases List.mem_cons.1 hx with rfl | hx
  ·exact ho
  ·exact hl x hx
theorem On {M : List UInt8} {tg f : Nat} {st : List LObj} (h : M ≠ []) (hl : M.length ≤ 200000000000000) :
  Ao A0 [] st (.append false 1 1 (.const (.tight [])) (.const (.sl (bs M) tg f))) = some (.sl (bs M) st.length M.length, st ++ [.spare 1 M.length]) := by
 have := Fg (str := false) (L := []) (M := M) (es0 := []) (es := bs M) (st := st) (x := .sl (bs M) tg f) rfl rfl rfl h (by simpa using hl)
 simpa using this
end Go.LS
