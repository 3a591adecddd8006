import Derived.Test.YtmbjojnldbeicaaLsCodW3
import Derived.Test.YtmbjojnldbeicaaLsCod5
set_option linter.unusedVariables false
set_option linter.unusedSimpArgs false
set_option maxRecDepth 100000
set_option linter.unusedSimpArgs false
namespace Go.Proofs.Ytmbjojnldbeicaa
open Go Go.LS
theorem encC_len : ∀ v, mayV v = true → ((encC v).length : Int) = sizeV v := by
  refine Val.ind fun k n s is ns ih hmay => ?_
  obtain ⟨hm1, hsh⟩ := mayV_inv hmay
  rcases shape_parts hsh with ⟨rfl, rfl, rfl, hl, rfl⟩ | ⟨rfl, hn2, rfl, hl, rfl⟩ | ⟨rfl, rfl, hl, rfl⟩ | ⟨hk45, rfl, hl, rfl⟩ | ⟨rfl, rfl, rfl, rfl⟩ | ⟨rfl, rfl, rfl, hl⟩
  · simp [encC, sizeV]
  · simp [encC, sizeV]
  · simp [encC, sizeV]; omega
  · rcases hk45 with rfl | rfl <;> simp [encC, sizeV, tlenN] <;> omega
  · have := encL_len0 is [] (fun v hv => ih v hv (hm1 v hv))
    simp [encC, sizeV, clenN]; omega
  · have := encL_len1 is ns hl (fun v hv => ih v hv (hm1 v hv))
    simp [encC, sizeV, clenN]; omega
theorem size_nodes : ∀ v, okV v → ∀ d : Int, 0 ≤ d → d ≤ 1000 → nodesV d v < 65536 → sizeV v ≤ 150000000000000 * nodesV d v := by
  refine Val.ind fun k n s is ns ih hok d h0 h1 hlt => ?_
  obtain ⟨_, hn, hs, hil, hnl, hns, his⟩ := okV_inv hok
  rw [nodesV] at hlt ⊢
  by_cases hd : d > 40
  · rw [if_pos hd] at hlt; omega
  · rw [if_neg hd, wrap_i64 (by omega) (by omega), wrap_i64 (by omega) (by omega)] at hlt ⊢
    have key : ∀ l, (∀ v ∈ l, v ∈ is) → ∀ m, 1 ≤ m → nodesL (d + 1) m l < 65536 → m < 65536 ∧ sizeL l + 150000000000000 * m ≤ 150000000000000 * nodesL (d + 1) m l := by
      intro l
      induction l with
      | nil => intro _ m hm h; simp only [nodesL, sizeL] at h ⊢; omega
      | cons v r ihr =>
        intro hl m hm h
        have hv := hl v (List.mem_cons_self ..)
        obtain ⟨b1, b2, _⟩ := nodes_bounds v (his v hv) (d + 1) (by omega) (by omega)
        rw [nodesL] at h ⊢
        by_cases hmm : m < 65536
        · rw [if_pos hmm, wrap_i64 (by omega) (by omega)] at h ⊢
          obtain ⟨c1, c2⟩ := ihr (fun w hw => hl w (List.mem_cons_of_mem _ hw)) (m + nodesV (d + 1) v) (by omega) h
          have := ih v hv (his v hv) (d + 1) (by omega) (by omega) (by omega)
          rw [sizeL]
          exact ⟨hmm, by omega⟩
        · rw [if_neg hmm] at h; omega
    obtain ⟨c1, c2⟩ := key is (fun v h => h) (1 + (ns.length : Int)) (by omega) hlt
    have hnm : ∀ l : List (List UInt8), (∀ x ∈ l, x ∈ ns) → (l.map tlenN).sum ≤ 140737488351252 * (l.length : Int) := by
      intro l
      induction l with
      | nil => intro _; simp
      | cons x r ihr =>
        intro h
        have := hns x (h x (by simp)); have := ihr (fun y hy => h y (by simp [hy]))
        have := vcode_len x.length (by omega)
        simp only [List.map_cons, List.sum_cons, tlenN, List.length_cons]; omega
    have hN := hnm ns (fun _ h => h)
    have hz := vcode_len (zzN n) (zz_lt hn.1 hn.2)
    have hsl := vcode_len s.length (by omega)
    have hil2 := vcode_len is.length (by omega)
    have hpos : 0 ≤ sizeL is := by
      have : ∀ l : List Val, 0 ≤ sizeL l := by
        intro l
        induction l with
        | nil => simp [sizeL]
        | cons v r ihr => have := sizeV_pos v; simp only [sizeL]; omega
      exact this is
    have hN0 : (0 : Int) ≤ ns.length := by omega
    rw [sizeV]
    simp only [tlenN, clenN]
    repeat' split
    all_goals omega
theorem sizeW_eq {v : Val} (hok : okV v) (h : largeV v = false) : sizeW v = sizeV v := by
  simp only [largeV, decide_eq_false_iff_not] at h
  have h1 := size_nodes v hok 0 (by omega) (by omega) (by omega)
  have h2 := sizeV_pos v
  unfold sizeW
  rw [wrap_i64 (by omega) (by omega)]
theorem check_ok {v : Val} (h : checkV v = 0) : mayV v = true ∧ depthV v ≤ 8 ∧ sizeW v ≤ 4096 := by
  unfold checkV at h
  split at h
  · rename_i h1
    split at h
    · cases h
    · split at h
      · cases h
      · exact ⟨h1, by omega, by omega⟩
  · cases h
theorem code_small {v : Val} (hc : checkV v = 0) (hs : sizeW v = sizeV v) : (encC v).length ≤ 4096 := by
  obtain ⟨m1, _, m3⟩ := check_ok hc
  have := encC_len v m1
  omega
end Go.Proofs.Ytmbjojnldbeicaa
