import Derived.Test.YtegboccilfofmaaGreatLsLawsW
import Derived.Test.YtegboccilfofmaaGreatLsG5
set_option linter.unusedVariables false
set_option maxRecDepth 100000
set_option linter.unusedSimpArgs false
namespace Go.Proofs.YtegboccilfofmaaGreat
open Go Go.LS
theorem sSameS (q : SpS) (h : okSp q) : Runs lp 11 [Lc q, Lc q] [] (.p (.bool true), []) := by
 obtain ⟨rb, v, ops⟩ := q
 obtain ⟨h1, h2, h3, h4⟩ := h
 simp only at h1 h2 h3 h4
 have hv := Yd v h1 v h1
 rw [Mw] at hv
 obtain ⟨k, n, s, is, ns⟩ := v
 have hl := C3 (σ := Unit) (lp := lp) (k := 0) (L := Ac Qm 0) (fun i _ => (tl 0 76 [(2, .ptr 0 0 0), (3, .ptr 1 0 0), (5, .p (.int .i64 (i : Int)))])) (fun _ _ => [.row [[.p (.bool rb), .p (.int .i64 k), .p (.int .i64 n), .p (.str s), (.p (.sl (Ad is))), (.p (.sl (Ab ns))), (.p (.sl (Ap ops)))]], .row [[.p (.bool rb), .p (.int .i64 k), .p (.int .i64 n), .p (.str s), (.p (.sl (Ad is))), (.p (.sl (Ab ns))), (.p (.sl (Ap ops)))]]]) ops (fun _ _ => ()) (fun _ => (.exit 0, (tl 0 76 []), [.row [[.p (.bool rb), .p (.int .i64 k), .p (.int .i64 n), .p (.str s), (.p (.sl (Ad is))), (.p (.sl (Ab ns))), (.p (.sl (Ap ops)))]], .row [[.p (.bool rb), .p (.int .i64 k), .p (.int .i64 n), .p (.str s), (.p (.sl (Ad is))), (.p (.sl (Ab ns))), (.p (.sl (Ap ops)))]]])) (fun _ _ => True)
  (by
    intro i _ x r hx _
    have hi := Ec hx
    have hoo := h4 _ (List.mem_of_getElem? hx)
    have hs := Yd x.v hoo.2.2.1 x.v hoo.2.2.1
    rw [Mw] at hs
    have hp := Yk (ns := x.p) (ms := x.p) hoo.2.1
    have ht := Yk (ns := x.t) (ms := x.t) hoo.2.2.2.2.2
    rw [beq_self_eq_true] at hp ht
    obtain ⟨ok, ps, ⟨vk, vn, vs, vi, vns⟩, ts⟩ := x
    exact ⟨trivial, fun hr => smR_y _ _ _ _ _ _ _ _ (by rw [Bd]; exact dlt hi) hx hp ht hs (by rw [nx (by omega)]; exact hr)⟩)
  (fun _ _ => smR_n (by rw [Bd]; exact B8)) () trivial
 exact sm0 hv hl
theorem Ru : Runs lp 12 [.p .nilp] [] (.agg [.p (.bool false), .p (.int .i64 0), .p (.int .i64 0), .p (.str []), .p (.sl []), .p (.sl []), .p (.sl [])], []) := ⟨400, by kernel_rfl⟩
theorem Tf (z : Int) : ∀ (j i : Nat) (x : Src), i + j = 10 → x.1.length ≤ 20000 → ∃ y : Src, LoopN lp 0 (Ac lf4 0) (tl 0 64 [(1, .p (.int .i64 z)), (5, .ptr 0 0 0), (6, .ptr 1 0 0), (7, .p (.int .i64 (i : Int)))])
  [.row [[.p (.sl (bs x.1)), .p (.bool x.2)]], .row [[.p (.sl (bs x.1)), .p (.bool x.2)]]] (.exit 0, (tl 0 64 []), [.row [[.p (.sl (bs y.1)), .p (.bool y.2)]], .row [[.p (.sl (bs y.1)), .p (.bool y.2)]]]) := by
 intro j
 induction j with
 | zero =>
  intro i x hi hx
  cases hz : decide ((i : Int) < z) with
  | false => exact ⟨x, Zt hz⟩
  | true => exact ⟨x, rdsR_yn hz (decide_eq_false (by omega))⟩
 | succ j ih =>
  intro i x hi hx
  cases hz : decide ((i : Int) < z) with
  | false => exact ⟨x, Zt hz⟩
  | true =>
   have h1 := sRd x (by omega)
   have h2 := tRd x (by omega)
   rw [← Pz] at h2
   have ho := V0 true x
   have hl := V2 true x (by omega)
   have hs := sSameS _ ho
   generalize Dt true x = q at *
   obtain ⟨⟨rb, ⟨k, n, s, is, ns⟩, ops⟩, x2⟩ := q
   simp only at hl ho
   obtain ⟨y, hy⟩ := ih (i + 1) x2 (by omega) (by omega)
   exact ⟨y, rdsR_yy hz (decide_eq_true (by omega)) h1 h2 hs (vLeft x2) (rLeft x2) (by rw [nx (by omega)]; exact hy)⟩
theorem specR (L : List UInt8) (z : Int) : Runs lp 4 [.p (.sl (bs L)), .p (.int .i64 z)] [] (.p (.bool true), []) := by
 by_cases hl : L.length ≤ 20000
 ·obtain ⟨y, hy⟩ := Tf z 10 0 (L, false) rfl hl
  by_cases hne : L = []
  ·subst hne
   exact lawRn (x2 := y) (T9 (L := [])) Uj hy Ru
  ·refine ifE (lawR (x2 := y) (fun _ => Uj) (fun _ => by simp only [List.length_nil]; omega) (fun _ => hne) (fun _ => T9) (fun _ => Uj) (fun _ => hy) (fun _ => Ru)) ?_
   simp
 ·have hb : decide (((List.length (bs L) : Nat) : Int) > 20000) = true := decide_eq_true (by rw [Bz]; omega)
  refine ifE (lawR (x2 := (L, false)) (fun _ => Uj) (fun h => by rw [hb] at h; cases h) (fun h => by rw [hb] at h; cases h) (fun h => by rw [hb] at h; cases h) (fun h => by rw [hb] at h; cases h) (fun h => by rw [hb] at h; cases h) (fun h => by rw [hb] at h; cases h)) ?_
  simp
end Go.Proofs.YtegboccilfofmaaGreat
