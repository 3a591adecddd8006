import Derived.Test.YtegboccilfofmaaLsLawsW
import Derived.Test.YtegboccilfofmaaLsG6
set_option linter.unusedVariables false
set_option maxRecDepth 100000
set_option linter.unusedSimpArgs false
namespace Go.Proofs.Ytegboccilfofmaa
open Go Go.LS
theorem rLargeS {rb : Bool} (v : Val) {ops : List OpS} (hok : okV v) (hl : ops.length ≤ 1100000000000) (ho : ∀ o ∈ ops, okA o) : ∃ b : Bool, Runs lp 5 [.agg ([.p (.bool rb)] ++ (rowV v).map .p ++ [.p (.sl (rowsO ops))])] [] (.p (.bool b), []) ∧
    (b = false → ops.length ≤ 50 ∧ largeV v = false ∧ ∀ o ∈ ops, largeV o.v = false) := by
  have hv := rLarge v hok
  obtain ⟨k, n, s, is, ns⟩ := v
  have h := loop_all (lp := lp) (k := 0) (L := loopNo lf5 0) (fun i => (tl 0 51 [(1, .ptr 0 0 0), (3, .p (.int .i64 (i : Int)))])) [.row [[.p (.bool rb), .p (.int .i64 k), .p (.int .i64 n), .p (.str s), (.p (.sl (rowsV is))), (.p (.sl (rowsN ns))), (.p (.sl (rowsO ops)))]]] (ops.take 60) (fun o => !(largeV o.v) && decide (o.p.length ≤ 50) && decide (o.t.length ≤ 50)) (rF := (.ret, (tl 0 51 [(2, .p (.bool true))]), [.row [[.p (.bool rb), .p (.int .i64 k), .p (.int .i64 n), .p (.str s), (.p (.sl (rowsV is))), (.p (.sl (rowsN ns))), (.p (.sl (rowsO ops)))]]])) (rT := (.exit 0, (tl 0 51 [(1, .ptr 0 0 0)]), [.row [[.p (.bool rb), .p (.int .i64 k), .p (.int .i64 n), .p (.str s), (.p (.sl (rowsV is))), (.p (.sl (rowsN ns))), (.p (.sl (rowsO ops)))]]]))
    (fun i x hx hp => by
      have hi := ltGet hx
      rw [List.length_take] at hi
      rw [List.getElem?_take_of_lt (by omega)] at hx
      have hoo := rLarge x.v (ho _ (List.mem_of_getElem? hx)).2.2.1
      obtain ⟨ok, ps, ⟨vk, vn, vs, vi, vns⟩, ts⟩ := x
      have a1 : decide ((i : Int) < ((List.length (rowsO ops) : Nat) : Int)) = true := by rw [rowsO_len]; exact dlt (by omega)
      have a2 : decide ((i : Int) < 60) = true := decide_eq_true (by omega)
      cases h1 : largeV (.mk vk vn vs vi vns) with
      | true => exact lgR_yyy _ _ _ _ _ _ _ _ a1 a2 hx hoo h1
      | false =>
        by_cases h2 : ps.length ≤ 50
        · have h3 : ¬ ts.length ≤ 50 := fun h => by simp [h1, h2, h] at hp
          exact lgR_yynny _ _ _ _ _ _ _ _ a1 a2 hx hoo h1 (decide_eq_false (by rw [rowsN_len]; omega)) (decide_eq_true (by rw [rowsN_len]; omega))
        · exact lgR_yyny _ _ _ _ _ _ _ _ a1 a2 hx hoo h1 (decide_eq_true (by rw [rowsN_len]; omega)))
    (fun i x r hx hp hr => by
      have hi := ltGet hx
      rw [List.length_take] at hi
      rw [List.getElem?_take_of_lt (by omega)] at hx
      have hoo := rLarge x.v (ho _ (List.mem_of_getElem? hx)).2.2.1
      obtain ⟨ok, ps, ⟨vk, vn, vs, vi, vns⟩, ts⟩ := x
      have a1 : decide ((i : Int) < ((List.length (rowsO ops) : Nat) : Int)) = true := by rw [rowsO_len]; exact dlt (by omega)
      have a2 : decide ((i : Int) < 60) = true := decide_eq_true (by omega)
      simp only [Bool.and_eq_true, Bool.not_eq_true', decide_eq_true_eq] at hp
      exact lgR_yynnn _ _ _ _ _ _ _ _ a1 a2 hx hoo hp.1.1 (decide_eq_false (by rw [rowsN_len]; have := hp.1.2; omega)) (decide_eq_false (by rw [rowsN_len]; have := hp.2; omega)) (by rw [nx (by omega)]; exact hr))
    (by
      by_cases h60 : ops.length ≤ 60
      · exact lgR_n (decide_eq_false (by rw [rowsO_len, List.length_take]; omega))
      · exact lgR_yn (decide_eq_true (by rw [rowsO_len, List.length_take]; omega)) (decide_eq_false (by rw [List.length_take]; omega)))
  cases hb : (ops.take 60).all (fun o => !(largeV o.v) && decide (o.p.length ≤ 50) && decide (o.t.length ≤ 50)) with
  | false =>
    rw [hb] at h
    refine ⟨true, ifE (lg0 (bb := true) (fun _ => h) (fun b => by cases b) (fun b => by cases b)) ?_, fun h => by cases h⟩
    rfl
  | true =>
    rw [hb] at h
    by_cases h50 : 50 < ops.length
    · refine ⟨true, ifE (lg0 (bb := false) (fun b => by cases b) (fun _ => h) (fun _ _ => hv)) ?_, fun h => by cases h⟩
      rw [if_neg (by decide), if_pos (decide_eq_true (by rw [rowsO_len]; omega))]
    · refine ⟨largeV (.mk k n s is ns), ifE (lg0 (bb := false) (fun b => by cases b) (fun _ => h) (fun _ _ => hv)) ?_, fun hL => ⟨by omega, hL, fun o hm => ?_⟩⟩
      · rw [if_neg (by decide), if_neg (fun h => by have := of_decide_eq_true h; rw [rowsO_len] at this; omega)]
      · rw [List.take_of_length_le (by omega)] at hb
        have := List.all_eq_true.1 hb o hm
        simp only [Bool.and_eq_true, Bool.not_eq_true'] at this
        exact this.1.1
theorem checksA {rb : Bool} {k n : Int} {s : List UInt8} {is : List Val} {ns : List (List UInt8)} {ops : List OpS} (hl : ops.length ≤ 1000000) (ho : ∀ o ∈ ops, okO o) : LoopN lp 0 (loopNo lf3 0) (tl 0 74 [(1, .ptr 0 0 0), (3, .p (.bool true)), (4, .p (.int .i64 0))]) [.row [[.p (.bool rb), .p (.int .i64 k), .p (.int .i64 n), .p (.str s), (.p (.sl (rowsV is))), (.p (.sl (rowsN ns))), (.p (.sl (rowsO ops)))]]] (.exit 0, (tl 0 74 [(1, .ptr 0 0 0), (3, .p (.bool (List.all ops mayO)))]), [.row [[.p (.bool rb), .p (.int .i64 k), .p (.int .i64 n), .p (.str s), (.p (.sl (rowsV is))), (.p (.sl (rowsN ns))), (.p (.sl (rowsO ops)))]]]) := by
  have l := loop_each (lp := lp) (k := 0) (L := loopNo lf3 0) (fun i (ab : Bool) => (tl 0 74 [(1, .ptr 0 0 0), (3, .p (.bool ab)), (4, .p (.int .i64 (i : Int)))])) (fun _ _ => [.row [[.p (.bool rb), .p (.int .i64 k), .p (.int .i64 n), .p (.str s), (.p (.sl (rowsV is))), (.p (.sl (rowsN ns))), (.p (.sl (rowsO ops)))]]]) ops (fun ab o => ab && mayO o) (fun ab => (.exit 0, (tl 0 74 [(1, .ptr 0 0 0), (3, .p (.bool ab))]), [.row [[.p (.bool rb), .p (.int .i64 k), .p (.int .i64 n), .p (.str s), (.p (.sl (rowsV is))), (.p (.sl (rowsN ns))), (.p (.sl (rowsO ops)))]]])) (fun _ _ => True)
    (by
      intro i ab o r hx _
      have hi := ltGet hx
      have hoo := ho o (List.mem_of_getElem? hx)
      have h1 := rOpMay o hoo
      have h2 := sMay o hoo
      obtain ⟨ok, ps, ⟨vk, vn, vs, vi, vns⟩, ts⟩ := o
      refine ⟨trivial, fun hr => ?_⟩
      cases hb : ab with
      | true =>
        rw [hb, Bool.true_and] at hr
        exact ckA_yy _ _ _ _ _ _ _ _ (by rw [rowsO_len]; exact dlt hi) hx h1 h2 rfl (by rw [nx (by omega)]; exact hr)
      | false =>
        rw [hb, Bool.false_and] at hr
        exact ckA_yn _ _ _ _ _ _ _ _ (by rw [rowsO_len]; exact dlt hi) hx h1 h2 rfl (by rw [nx (by omega)]; exact hr))
    (fun ab _ => ckA_n (by rw [rowsO_len]; exact dlt_n)) true trivial
  have e : ∀ (l : List OpS) (b : Bool), l.foldl (fun ab o => ab && mayO o) b = (b && l.all mayO) := by
    intro l
    induction l with
    | nil => intro b; simp
    | cons x r ih => intro b; rw [List.foldl_cons, ih, List.all_cons, Bool.and_assoc]
  rw [e, Bool.true_and] at l
  exact l
theorem checksB {l : List Pt} (hl : l.length ≤ 1000000) (hq : ∀ q ∈ l, q.length ≤ 140737488355328) : LoopN lp 0 (loopNo lf3 1) (tl 0 74 [(6, .p (.sl (rowsP l))), (7, .p (.sl (rowsP l))), (8, .p (.int .i64 0))]) [] (.exit 2, (tl 0 74 []), []) :=
  loop_each (σ := Unit) (lp := lp) (k := 0) (L := loopNo lf3 1) (fun i _ => (tl 0 74 [(6, .p (.sl (rowsP l))), (7, .p (.sl (rowsP l))), (8, .p (.int .i64 (i : Int)))])) (fun _ _ => []) l (fun _ _ => ()) (fun _ => (.exit 2, (tl 0 74 []), [])) (fun _ _ => True)
    (by
      intro i _ x r hx _
      have hi := ltGet hx
      have e := getP hx
      have h1 := rpSame (ns := x) (ms := x) (hq x (List.mem_of_getElem? hx))
      rw [beq_self_eq_true] at h1
      exact ⟨trivial, fun hr => ckB_y (by rw [rowsP_len]; exact dlt hi) hi (by rw [e]; exact h1) (by rw [nx (by omega)]; exact hr)⟩)
    (fun _ _ => ckB_n (by rw [rowsP_len]; exact dlt_n)) () trivial
theorem specK {rb : Bool} (v : Val) {ops : List OpS} (hok : okV v) (hl : ops.length ≤ 1100000000000) (ho : ∀ o ∈ ops, okA o) :
    Runs lp 3 [.agg ([.p (.bool rb)] ++ (rowV v).map .p ++ [.p (.sl (rowsO ops))])] [] (.p (.bool true), []) := by
  obtain ⟨b, hlg, hf⟩ := rLargeS (rb := rb) v hok hl ho
  have hO : ∀ o ∈ ops, okO o := fun o hm => by have h := ho o hm; exact ⟨h.1, h.2.1, h.2.2.1, trivial, h.2.2.2.1, h.2.2.2.2⟩
  have hlen : b = false → ops.length ≤ 50 := fun h => (hf h).1
  have hs : b = false → _ := fun h => sCheckT v (ops := ops) (rb := rb) hok trivial (by have := hlen h; omega) hO
  have hr : b = false → _ := fun h => rCheckT v (ops := ops) (rb := rb) hok trivial (by have := hlen h; omega) hO
  have hp : b = false → _ := fun h => fun k n s is ns => @sPlaces rb k n s is ns ops (by have := hlen h; omega) hO
  have hpl := placesO_len ops
  obtain ⟨k, n, s, is, ns⟩ := v
  have hB : b = false → ops.all mayO = true → _ := fun h hm => checksB (l := placesO ops) (by have := hlen h; omega) (fun q hq => (places_len ops (fun o ho => mayO_path (List.all_eq_true.1 hm o ho)) q hq).2)
  refine ifE (lawK (lg := b) hlg (fun _ => lives) (fun h => checksA (by have := hlen h; omega) hO) (fun h hm => by have := hp h k n s is ns; rw [if_pos hm] at this; exact this) (fun h hm => rPlaces (by have := hlen h; omega) hm) (fun _ _ => lives) (fun h _ => hs h) (fun h _ => hr h) (fun h hm => hB h hm)
    (fun h hm => by have := hp h k n s is ns; rw [if_neg (by rw [hm]; decide)] at this; exact this) (fun _ _ => lives) (fun h _ => hs h) (fun h _ => hr h) (fun _ _ => ckC)) ?_
  cases b <;> cases ops.all mayO <;> rfl
end Go.Proofs.Ytegboccilfofmaa
