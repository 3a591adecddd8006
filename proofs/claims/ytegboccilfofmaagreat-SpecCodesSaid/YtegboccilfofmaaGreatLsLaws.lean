import Derived.Test.YtegboccilfofmaaGreatLsLawsW
import Derived.Test.YtegboccilfofmaaGreatLsG5
set_option linter.unusedVariables false
set_option maxRecDepth 100000
set_option linter.unusedSimpArgs false
namespace Go.Proofs.YtegboccilfofmaaGreat
open Go Go.LS
theorem len9 {L : List UInt8} (h : L.length ≤ 140737488355328) : 0 < IntKind.wrap .i64 (((List.length (bs L) : Nat) : Int) + 9) ∧ IntKind.wrap .i64 (((List.length (bs L) : Nat) : Int) + 9) * (1 : Int) ≤ 281474976710656 ∧ IntKind.wrap .i64 (((List.length (bs L) : Nat) : Int) + 9) ≤ 9223372036854775807 := by
 rw [Cl, A9 (by omega) (by omega)]; omega
theorem rLargeS {rb : Bool} (v : Val) {ops : List OpS} (hok : okV v) (hl : ops.length ≤ 1100000000000) (ho : ∀ o ∈ ops, okA o) : ∃ b : Bool, Runs lp 5 [.agg ([.p (.bool rb)] ++ (F1 v).map .p ++ [.p (.sl (Ai ops))])] [] (.p (.bool b), []) ∧
  (b = false → ops.length ≤ 50 ∧ Cn v = false ∧ ∀ o ∈ ops, Cn o.v = false) := by
 have hv := Sx v hok
 obtain ⟨k, n, s, is, ns⟩ := v
 have h := Dy (lp := lp) (k := 0) (L := Ab lf5 0) (fun i => (tl 0 51 [(1, .ptr 0 0 0), (3, .p (.int .i64 (i : Int)))])) [.row [[.p (.bool rb), .p (.int .i64 k), .p (.int .i64 n), .p (.str s), (.p (.sl (Ac is))), (.p (.sl (Aa ns))), (.p (.sl (Ai ops)))]]] (ops.take 60) (fun o => !(Cn o.v) && decide (o.p.length ≤ 50) && decide (o.t.length ≤ 50)) (rF := (.ret, (tl 0 51 [(2, .p (.bool true))]), [.row [[.p (.bool rb), .p (.int .i64 k), .p (.int .i64 n), .p (.str s), (.p (.sl (Ac is))), (.p (.sl (Aa ns))), (.p (.sl (Ai ops)))]]])) (rT := (.exit 0, (tl 0 51 [(1, .ptr 0 0 0)]), [.row [[.p (.bool rb), .p (.int .i64 k), .p (.int .i64 n), .p (.str s), (.p (.sl (Ac is))), (.p (.sl (Aa ns))), (.p (.sl (Ai ops)))]]]))
  (fun i x hx hp => by
    have hi := De hx
    rw [List.length_take] at hi
    rw [List.getElem?_take_of_lt (by omega)] at hx
    have hoo := Sx x.v (ho _ (List.mem_of_getElem? hx)).2.2.1
    obtain ⟨ok, ps, ⟨vk, vn, vs, vi, vns⟩, ts⟩ := x
    have a1 : decide ((i : Int) < ((List.length (Ai ops) : Nat) : Int)) = true := by rw [At]; exact dlt (by omega)
    have a2 : decide ((i : Int) < 60) = true := decide_eq_true (by omega)
    cases h1 : Cn (.mk vk vn vs vi vns) with
    | true => exact lgR_yyy _ _ _ _ _ _ _ _ a1 a2 hx hoo h1
    | false =>
     by_cases h2 : ps.length ≤ 50
     ·have h3 : ¬ ts.length ≤ 50 := fun h => by simp [h1, h2, h] at hp
      exact Vx _ _ _ _ _ _ _ _ a1 a2 hx hoo h1 (decide_eq_false (by rw [Ao]; omega)) (decide_eq_true (by rw [Ao]; omega))
     ·exact Z9 _ _ _ _ _ _ _ _ a1 a2 hx hoo h1 (decide_eq_true (by rw [Ao]; omega)))
  (fun i x r hx hp hr => by
    have hi := De hx
    rw [List.length_take] at hi
    rw [List.getElem?_take_of_lt (by omega)] at hx
    have hoo := Sx x.v (ho _ (List.mem_of_getElem? hx)).2.2.1
    obtain ⟨ok, ps, ⟨vk, vn, vs, vi, vns⟩, ts⟩ := x
    have a1 : decide ((i : Int) < ((List.length (Ai ops) : Nat) : Int)) = true := by rw [At]; exact dlt (by omega)
    have a2 : decide ((i : Int) < 60) = true := decide_eq_true (by omega)
    simp only [Bool.and_eq_true, Bool.not_eq_true', decide_eq_true_eq] at hp
    exact Vy _ _ _ _ _ _ _ _ a1 a2 hx hoo hp.1.1 (decide_eq_false (by rw [Ao]; have := hp.1.2; omega)) (decide_eq_false (by rw [Ao]; have := hp.2; omega)) (by rw [nx (by omega)]; exact hr))
  (by
    by_cases h60 : ops.length ≤ 60
    ·exact lgR_n (decide_eq_false (by rw [At, List.length_take]; omega))
    ·exact lgR_yn (decide_eq_true (by rw [At, List.length_take]; omega)) (decide_eq_false (by rw [List.length_take]; omega)))
 cases hb : (ops.take 60).all (fun o => !(Cn o.v) && decide (o.p.length ≤ 50) && decide (o.t.length ≤ 50)) with
 | false =>
  rw [hb] at h
  refine ⟨true, ifE (lg0 (bb := true) (fun _ => h) (fun b => by cases b) (fun b => by cases b)) ?_, fun h => by cases h⟩
  rfl
 | true =>
  rw [hb] at h
  by_cases h50 : 50 < ops.length
  ·refine ⟨true, ifE (lg0 (bb := false) (fun b => by cases b) (fun _ => h) (fun _ _ => hv)) ?_, fun h => by cases h⟩
   rw [if_neg (by decide), if_pos (decide_eq_true (by rw [At]; omega))]
  ·refine ⟨Cn (.mk k n s is ns), ifE (lg0 (bb := false) (fun b => by cases b) (fun _ => h) (fun _ _ => hv)) ?_, fun hL => ⟨by omega, hL, fun o hm => ?_⟩⟩
   ·rw [if_neg (by decide), if_neg (fun h => by have := of_decide_eq_true h; rw [At] at this; omega)]
   ·rw [List.take_of_length_le (by omega)] at hb
    have := List.all_eq_true.1 hb o hm
    simp only [Bool.and_eq_true, Bool.not_eq_true'] at this
    exact this.1.1
theorem okA_C {o : OpS} (h : okA o) (hl : Cn o.v = false) : okC o :=
 ⟨⟨h.1, h.2.1, h.2.2.1, by have := Lj h.2.2.1 hl; omega, h.2.2.2.1, h.2.2.2.2⟩, Rw h.2.2.1 hl⟩
theorem sSameS (q : SpS) (h : okSp q) : Runs lp 11 [Ir q, Ir q] [] (.p (.bool true), []) := by
 obtain ⟨rb, v, ops⟩ := q
 obtain ⟨h1, h2, h3, h4⟩ := h
 simp only at h1 h2 h3 h4
 have hv := Ya v h1 v h1
 rw [M7] at hv
 obtain ⟨k, n, s, is, ns⟩ := v
 have hl := B2 (σ := Unit) (lp := lp) (k := 0) (L := Ab Q3 0) (fun i _ => (tl 0 76 [(2, .ptr 0 0 0), (3, .ptr 1 0 0), (5, .p (.int .i64 (i : Int)))])) (fun _ _ => [.row [[.p (.bool rb), .p (.int .i64 k), .p (.int .i64 n), .p (.str s), (.p (.sl (Ac is))), (.p (.sl (Aa ns))), (.p (.sl (Ai ops)))]], .row [[.p (.bool rb), .p (.int .i64 k), .p (.int .i64 n), .p (.str s), (.p (.sl (Ac is))), (.p (.sl (Aa ns))), (.p (.sl (Ai ops)))]]]) ops (fun _ _ => ()) (fun _ => (.exit 0, (tl 0 76 []), [.row [[.p (.bool rb), .p (.int .i64 k), .p (.int .i64 n), .p (.str s), (.p (.sl (Ac is))), (.p (.sl (Aa ns))), (.p (.sl (Ai ops)))]], .row [[.p (.bool rb), .p (.int .i64 k), .p (.int .i64 n), .p (.str s), (.p (.sl (Ac is))), (.p (.sl (Aa ns))), (.p (.sl (Ai ops)))]]])) (fun _ _ => True)
  (by
    intro i _ x r hx _
    have hi := De hx
    have hoo := h4 _ (List.mem_of_getElem? hx)
    have hs := Ya x.v hoo.2.2.1 x.v hoo.2.2.1
    rw [M7] at hs
    have hp := Yi (ns := x.p) (ms := x.p) hoo.2.1
    have ht := Yi (ns := x.t) (ms := x.t) hoo.2.2.2.2.2
    rw [beq_self_eq_true] at hp ht
    obtain ⟨ok, ps, ⟨vk, vn, vs, vi, vns⟩, ts⟩ := x
    exact ⟨trivial, fun hr => smR_y _ _ _ _ _ _ _ _ (by rw [At]; exact dlt hi) hx hp ht hs (by rw [nx (by omega)]; exact hr)⟩)
  (fun _ _ => smR_n (by rw [At]; exact B4)) () trivial
 exact sm0 hv hl
theorem encS_len {rb : Bool} {v : Val} {ops : List OpS} (hs : Bk v = Bu v) (ho : ∀ o ∈ ops, okC o) (h0 : Aw rb v ops = 0) : (B5 rb v ops).length ≤ 100000000 := by
 have hp := Dg h0
 cases rb with
 | true =>
  have h := Id hp
  have := Fb h.2.2 hs
  simp only [B5, if_true, List.length_cons]; omega
 | false =>
  have h := F9 hp
  have h1 := vcode_len (u := ops.length) (by omega)
  have h2 := Ry Cj 5000 ops (fun o hm => Nm (List.all_eq_true.1 h.2.2.1 o hm) (ho o hm))
  simp only [B5, Bool.false_eq_true, if_false, List.length_cons, List.length_append]
  omega
theorem specC {rb : Bool} (v : Val) {ops : List OpS} (hok : okV v) (hl : ops.length ≤ 1100000000000) (ho : ∀ o ∈ ops, okA o) {L : List UInt8} (hL : L.length ≤ 140737488351232) :
  Runs lp 3 [.agg ([.p (.bool rb)] ++ (F1 v).map .p ++ [.p (.sl (Ai ops))]), .p (.sl (bs L))] [] (.p (.bool true), []) := by
 obtain ⟨b, hlg, hf⟩ := rLargeS (rb := rb) v hok hl ho
 have hd : b = false → Ay v ≤ 1000000 := fun h => by have := Lj hok (hf h).2.1; omega
 have hs : b = false → Bk v = Bu v := fun h => Rw hok (hf h).2.1
 have hC : b = false → ∀ o ∈ ops, okC o := fun h o hm => okA_C (ho o hm) ((hf h).2.2 o hm)
 have hO : b = false → ∀ o ∈ ops, okO o := fun h o hm => (hC h o hm).1
 have hlen : b = false → ops.length ≤ 50 := fun h => (hf h).1
 have hput : b = false → Runs lp 7 [.p (.sl (bs L)), .agg ([.p (.bool rb)] ++ (F1 v).map .p ++ [.p (.sl (Ai ops))])] [] (.p (.sl (bs (if Aw rb v ops == 0 then L ++ B5 rb v ops else L))), []) :=
  fun h => sPut v hok (hd h) (hs h) (by have := hlen h; omega) (hC h) (by omega)
 have hck : b = false → Runs lp 8 [.agg ([.p (.bool rb)] ++ (F1 v).map .p ++ [.p (.sl (Ai ops))])] [] (.p (.int .i64 (Aw rb v ops)), []) := fun h => rCheckT v hok (hd h) (by have := hlen h; omega) (hO h)
 have hcd : b = false → Aw rb v ops = 0 → Runs lp 9 [.agg ([.p (.bool rb)] ++ (F1 v).map .p ++ [.p (.sl (Ai ops))])] [] (.p (.sl (bs (B5 rb v ops))), []) := fun h h0 => rCode v hok (hs h) (hC h) h0
 have hel : b = false → Aw rb v ops = 0 → (B5 rb v ops).length ≤ 100000000 := fun h h0 => encS_len (hs h) (hC h) h0
 have hrd : b = false → Aw rb v ops = 0 → Runs lp 12 [.ptr 0 0 0] (sto (B5 rb v ops, false)) (Ir ⟨rb, v, ops⟩, sto ([], false)) := fun h h0 => by
  have h1 := sRd (B5 rb v ops, false) (by have := hel h h0; simp only; omega)
  have h2 := Rz true (q := ⟨rb, v, ops⟩) ⟨hok, hd h, by have := hlen h; simp only; omega, hO h⟩ (hs h) (hC h) h0 []
  rw [List.append_nil] at h2
  rw [h2] at h1
  exact h1
 have hsm : b = false → Runs lp 11 [Ir ⟨rb, v, ops⟩, Ir ⟨rb, v, ops⟩] [] (.p (.bool true), []) := fun h => sSameS ⟨rb, v, ops⟩ ⟨hok, hd h, by have := hlen h; simp only; omega, hO h⟩
 have ed : List.drop (Int.toNat ((List.length (bs L) : Nat) : Int)) ((([] : List UInt8) ++ L) ++ B5 rb v ops) = B5 rb v ops := by rw [Cl]; simp
 obtain ⟨k, n, s, is, ns⟩ := v
 refine ifE (lawC (lg := b) (L := L) hlg (fun _ => Z8) (fun _ => len9 (by omega)) (fun _ => by simp only [List.length_nil]; omega) (fun h h0 => by have := hput h; rw [if_pos h0] at this; exact this) (fun _ _ => Z8) (fun h _ => hck h) (fun h h0 => hcd h (eq_of_beq h0))
  (fun h h0 => by have := hel h (eq_of_beq h0); omega) (fun _ _ _ => by rw [Cl]; omega) (fun _ _ _ => by rw [Cl]; simp only [List.nil_append, List.length_append]; omega) (fun _ _ _ => vfrom_p) (fun h h0 _ => by rw [ed]; exact hrd h (eq_of_beq h0)) (fun h _ _ => hsm h) (fun _ _ _ => vDone ([], false))
  (fun h h0 => by have := hput h; rw [if_neg (by rw [h0]; decide)] at this; exact this) (fun _ _ => Z8) (fun h _ => hck h)) ?_
 rw [List.nil_append, beq_self_eq_true, beq_self_eq_true]
 cases b <;> cases (Aw rb (.mk k n s is ns) ops == 0) <;> rfl
end Go.Proofs.YtegboccilfofmaaGreat
