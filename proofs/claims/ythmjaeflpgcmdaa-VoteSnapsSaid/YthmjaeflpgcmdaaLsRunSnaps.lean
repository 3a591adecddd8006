import Derived.Test.YthmjaeflpgcmdaaLsVot
set_option linter.unusedVariables false
set_option linter.unusedSimpArgs false
set_option maxRecDepth 100000
namespace Go.Proofs.Ythmjaeflpgcmdaa
open Go Go.LS
theorem Un : ∀ {es : List (List PV)}, (∀ e ∈ es, Bh [.str, .int .i64] e) → ∃ L : List B1, es = A4 L
 | [], _ => ⟨[], rfl⟩
 | e :: r, h => by
  obtain ⟨L, rfl⟩ := Un (es := r) (fun x hx => h x (List.mem_cons_of_mem _ hx))
  obtain ⟨s, q, rfl, _, h1⟩ := okS (h e List.mem_cons_self)
  obtain ⟨n, q, rfl, _, h2⟩ := okI h1
  obtain rfl := Oq h2
  exact ⟨(s, n) :: L, rfl⟩
theorem R3 : ∀ {es : List (List PV)}, (∀ e ∈ es, Bh [.sl [.int .u8] 1] e) → ∃ L : List (List UInt8), es = ef L
 | [], _ => ⟨[], rfl⟩
 | e :: r, h => by
  obtain ⟨L, rfl⟩ := R3 (es := r) (fun x hx => h x (List.mem_cons_of_mem _ hx))
  obtain ⟨B, q, rfl, ⟨_, _, hB⟩, h1⟩ := okSl (h e List.mem_cons_self)
  obtain ⟨B, rfl⟩ := Ua hB
  obtain rfl := Oq h1
  exact ⟨B :: L, rfl⟩
theorem run5 : ∀ vs, OkArgs [(false, [.sl [.sl [.int .u8] 1] 24]), (false, [.int .i64]), (false, [.int .i64]), (false, [.sl [.str, .int .i64] 24])] vs → ∃ k st', B6 lq k 5 vs [] = some (.p (.bool true), st') := by
 intro vs h
 obtain ⟨p0, l0, rfl, h0, g0⟩ := Ub h
 obtain ⟨es0, r0, rfl, ⟨y0, x0, w0⟩, z0⟩ := okSl h0
 obtain rfl := Oq z0
 obtain ⟨l, rfl⟩ := R3 w0
 obtain ⟨p1, l1, rfl, h1, g1⟩ := Ub g0
 obtain ⟨n, r1, rfl, ⟨_, hn⟩, z1⟩ := okI h1
 obtain rfl := Oq z1
 obtain ⟨p3, l3, rfl, h3, g3⟩ := Ub g1
 obtain ⟨m, r3, rfl, _, z3⟩ := okI h3
 obtain rfl := Oq z3
 obtain ⟨p2, l2, rfl, h2, g2⟩ := Ub g3
 obtain ⟨es2, r2, rfl, ⟨y2, x2, w2⟩, z2⟩ := okSl h2
 obtain rfl := Oq z2
 obtain ⟨ks, rfl⟩ := Un w2
 obtain rfl := okEnd g2
 rw [show (ef l).length = l.length by simp [ef]] at y0
 rw [Hk] at y2
 obtain ⟨k, hm⟩ := lawSn (n := n) (m := m) (l := l) (ks := ks) (by simp [reachBytes] at y0; omega) (by simp [reachBytes] at y2; omega) hn
 exact ⟨k, _, hm⟩
end Go.Proofs.Ythmjaeflpgcmdaa
