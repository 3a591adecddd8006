import Derived.Test.YtgdbbmckmphnhaaLsKeep
set_option linter.unusedVariables false
set_option linter.unusedSimpArgs false
set_option maxRecDepth 100000
namespace Go.Proofs.Ytgdbbmckmphnhaa
open Go Go.LS
theorem okKeeps : ∀ {es : List (List PV)}, (∀ e ∈ es, okPVs [.str, .int .i64] e) → ∃ L : List KeepT, es = rowsK L
  | [], _ => ⟨[], rfl⟩
  | e :: r, h => by
    obtain ⟨L, rfl⟩ := okKeeps (es := r) (fun x hx => h x (List.mem_cons_of_mem _ hx))
    obtain ⟨s, q, rfl, _, h1⟩ := okS (h e List.mem_cons_self)
    obtain ⟨n, q, rfl, _, h2⟩ := okI h1
    obtain rfl := okNil h2
    exact ⟨(s, n) :: L, rfl⟩
theorem okOps : ∀ {es : List (List PV)}, (∀ e ∈ es, okPVs [.int .i64, .str, .str, .sl [.int .u8] 1, .int .i64, .int .i64, .sl [.str, .int .i64] 24] e) → ∃ L : List OpT, es = rowsO L ∧ ∀ o ∈ L, o.2.2.2.2.1 ≤ 9223372036854775807
  | [], _ => ⟨[], rfl, by intro o ho; cases ho⟩
  | e :: r, h => by
    obtain ⟨L, rfl, hL⟩ := okOps (es := r) (fun x hx => h x (List.mem_cons_of_mem _ hx))
    obtain ⟨k, q, rfl, _, h1⟩ := okI (h e List.mem_cons_self)
    obtain ⟨n, q, rfl, _, h2⟩ := okS h1
    obtain ⟨t, q, rfl, _, h3⟩ := okS h2
    obtain ⟨B, q, rfl, ⟨_, _, hB⟩, h4⟩ := okSl h3
    obtain ⟨B, rfl⟩ := okBytes hB
    obtain ⟨N, q, rfl, ⟨_, hN⟩, h5⟩ := okI h4
    obtain ⟨M, q, rfl, _, h6⟩ := okI h5
    obtain ⟨K, q, rfl, ⟨_, _, hK⟩, h7⟩ := okSl h6
    obtain ⟨K, rfl⟩ := okKeeps hK
    obtain rfl := okNil h7
    refine ⟨(k, n, t, B, N, M, K) :: L, rfl, fun o ho => ?_⟩
    rcases List.mem_cons.1 ho with rfl | ho
    · exact hN
    · exact hL o ho
theorem run3 : ∀ vs, OkArgs [(false, [.sl [.int .u8] 1]), (false, [.sl [.int .i64, .str, .str, .sl [.int .u8] 1, .int .i64, .int .i64, .sl [.str, .int .i64] 24] 104]), (false, [.sl [.str, .int .i64] 24])] vs → ∃ k st', runF lq k 3 vs [] = some (.p (.bool true), st') := by
  intro vs h
  obtain ⟨p0, l0, rfl, h0, g0⟩ := okArg h
  obtain ⟨es0, r0, rfl, ⟨y0, x0, w0⟩, z0⟩ := okSl h0
  obtain rfl := okNil z0
  obtain ⟨b, rfl⟩ := okBytes w0
  obtain ⟨p1, l1, rfl, h1, g1⟩ := okArg g0
  obtain ⟨es1, r1, rfl, ⟨y1, x1, w1⟩, z1⟩ := okSl h1
  obtain rfl := okNil z1
  obtain ⟨ops, rfl, ho⟩ := okOps w1
  obtain ⟨p2, l2, rfl, h2, g2⟩ := okArg g1
  obtain ⟨es2, r2, rfl, ⟨y2, x2, w2⟩, z2⟩ := okSl h2
  obtain rfl := okNil z2
  obtain ⟨l, rfl⟩ := okKeeps w2
  obtain rfl := okEnd g2
  rw [rowsO_len] at y1
  rw [rowsK_len] at y2
  obtain ⟨m, hm⟩ := lawKeep (b := b) (ops := ops) (l := l) (by simp [reachBytes] at y1; omega) (by simp [reachBytes] at y2; omega) ho
  exact ⟨m, _, hm⟩
end Go.Proofs.Ytgdbbmckmphnhaa
