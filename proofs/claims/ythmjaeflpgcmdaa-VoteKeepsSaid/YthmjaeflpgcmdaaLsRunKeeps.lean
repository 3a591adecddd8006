import Derived.Test.YthmjaeflpgcmdaaLsVk
set_option linter.unusedVariables false
set_option linter.unusedSimpArgs false
set_option maxRecDepth 100000
namespace Go.Proofs.Ythmjaeflpgcmdaa
open Go Go.LS
theorem N5 : ∀ {es : List (List PV)}, (∀ e ∈ es, Be [.str, .int .i64] e) → ∃ L : List Bt, es = A3 L
 | [], _ => ⟨[], rfl⟩
 | e :: r, h => by
  obtain ⟨L, rfl⟩ := N5 (es := r) (fun x hx => h x (List.mem_cons_of_mem _ hx))
  obtain ⟨s, q, rfl, _, h1⟩ := okS (h e List.mem_cons_self)
  obtain ⟨n, q, rfl, _, h2⟩ := okI h1
  obtain rfl := O7 h2
  exact ⟨(s, n) :: L, rfl⟩
theorem Zi : ∀ {es : List (List PV)}, (∀ e ∈ es, Be [.int .i64, .int .i64, .int .i64, .int .i64, .int .i64, .sl [.int .u8] 1, .sl [.str, .int .i64] 24] e) → ∃ L : List OpV, es = Bq L
 | [], _ => ⟨[], rfl⟩
 | e :: r, h => by
  obtain ⟨L, rfl⟩ := Zi (es := r) (fun x hx => h x (List.mem_cons_of_mem _ hx))
  obtain ⟨k, q, rfl, _, h1⟩ := okI (h e List.mem_cons_self)
  obtain ⟨tt, q, rfl, _, h2⟩ := okI h1
  obtain ⟨nn, q, rfl, _, h3⟩ := okI h2
  obtain ⟨oN, q, rfl, _, h4⟩ := okI h3
  obtain ⟨oM, q, rfl, _, h5⟩ := okI h4
  obtain ⟨B, q, rfl, ⟨_, _, hB⟩, h6⟩ := okSl h5
  obtain ⟨B, rfl⟩ := Ux hB
  obtain ⟨K, q, rfl, ⟨_, _, hK⟩, h7⟩ := okSl h6
  obtain ⟨K, rfl⟩ := N5 hK
  obtain rfl := O7 h7
  exact ⟨(k, tt, nn, oN, oM, B, K) :: L, rfl⟩
theorem run4 : ∀ vs, OkArgs [(false, [.sl [.int .i64, .int .i64, .int .i64, .int .i64, .int .i64, .sl [.int .u8] 1, .sl [.str, .int .i64] 24] 88]), (false, [.int .i64]), (false, [.int .i64]), (false, [.sl [.str, .int .i64] 24])] vs → ∃ k st', B7 lq k 4 vs [] = some (.p (.bool true), st') := by
 intro vs h
 obtain ⟨p0, l0, rfl, h0, g0⟩ := Uy h
 obtain ⟨es0, r0, rfl, ⟨y0, x0, w0⟩, z0⟩ := okSl h0
 obtain rfl := O7 z0
 obtain ⟨l, rfl⟩ := Zi w0
 obtain ⟨p1, l1, rfl, h1, g1⟩ := Uy g0
 obtain ⟨n, r1, rfl, ⟨_, hn⟩, z1⟩ := okI h1
 obtain rfl := O7 z1
 obtain ⟨p3, l3, rfl, h3, g3⟩ := Uy g1
 obtain ⟨m, r3, rfl, _, z3⟩ := okI h3
 obtain rfl := O7 z3
 obtain ⟨p2, l2, rfl, h2, g2⟩ := Uy g3
 obtain ⟨es2, r2, rfl, ⟨y2, x2, w2⟩, z2⟩ := okSl h2
 obtain rfl := O7 z2
 obtain ⟨ks, rfl⟩ := N5 w2
 obtain rfl := okEnd g2
 rw [Kr] at y0
 rw [Ht] at y2
 obtain ⟨k, hm⟩ := lawKe (n := n) (m := m) (ops := l) (ks := ks) (by simp [reachBytes] at y0; omega) (by simp [reachBytes] at y2; omega) hn
 exact ⟨k, _, hm⟩
end Go.Proofs.Ythmjaeflpgcmdaa
