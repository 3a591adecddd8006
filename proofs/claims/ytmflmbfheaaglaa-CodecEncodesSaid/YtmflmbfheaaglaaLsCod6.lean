import Derived.Test.YtmflmbfheaaglaaLsCodW3
import Derived.Test.YtmflmbfheaaglaaLsCod5
set_option linter.unusedVariables false
set_option maxRecDepth 100000
set_option linter.unusedSimpArgs false
namespace Go.Proofs.Ytmflmbfheaaglaa
open Go Go.LS
theorem encC_len : ∀ v, mayV v = true → ((encC v).length : Int) = sizeV v := by
  refine Val.ind fun k n s is ns ih hmay => ?_
  obtain ⟨hm1, hsh⟩ := mayV_inv hmay
  rcases shape_parts hsh with ⟨rfl, rfl, rfl, hl, rfl⟩ | ⟨rfl, hn2, rfl, hl, rfl⟩ | ⟨rfl, rfl, hl, rfl⟩ | ⟨hk45, rfl, hl, rfl⟩ | ⟨rfl, rfl, rfl, rfl⟩ | ⟨rfl, rfl, rfl, hl⟩
  · simp [encC, sizeV]
  · simp [encC, sizeV]
  · simp [encC, sizeV]; omega
  · rcases hk45 with rfl | rfl <;> simp [encC, sizeV, tlenN] <;> omega
  · have := encL_len0 is [] (fun v hv => ih v hv (hm1 v hv))
    simp [encC, sizeV, clenN]; omega
  · have := encL_len1 is ns hl (fun v hv => ih v hv (hm1 v hv))
    simp [encC, sizeV, clenN]; omega
theorem size_nodes : ∀ v, okV v → ∀ d : Int, 0 ≤ d → d ≤ 1000 → nodesV d v < 65536 → sizeV v ≤ 150000000000000 * nodesV d v := by
  refine Val.ind fun k n s is ns ih hok d h0 h1 hlt => ?_
  obtain ⟨_, hn, hs, hil, hnl, hns, his⟩ := okV_inv hok
  rw [nodesV] at hlt ⊢
  by_cases hd : d > 40
  · rw [if_pos hd] at hlt; omega
  · rw [if_neg hd, wrap_i64 (by omega) (by omega), wrap_i64 (by omega) (by omega)] at hlt ⊢
    have key : ∀ l, (∀ v ∈ l, v ∈ is) → ∀ m, 1 ≤ m → nodesL (d + 1) m l < 65536 → m < 65536 ∧ sizeL l + 150000000000000 * m ≤ 150000000000000 * nodesL (d + 1) m l := by
      intro l
      induction l with
      | nil => intro _ m hm h; simp only [nodesL, sizeL] at h ⊢; omega
      | cons v r ihr =>
        intro hl m hm h
        have hv := hl v (List.mem_cons_self ..)
        obtain ⟨b1, b2, _⟩ := nodes_bounds v (his v hv) (d + 1) (by omega) (by omega)
        rw [nodesL] at h ⊢
        by_cases hmm : m < 65536
        · rw [if_pos hmm, wrap_i64 (by omega) (by omega)] at h ⊢
          obtain ⟨c1, c2⟩ := ihr (fun w hw => hl w (List.mem_cons_of_mem _ hw)) (m + nodesV (d + 1) v) (by omega) h
          have := ih v hv (his v hv) (d + 1) (by omega) (by omega) (by omega)
          rw [sizeL]
          exact ⟨hmm, by omega⟩
        · rw [if_neg hmm] at h; omega
    obtain ⟨c1, c2⟩ := key is (fun v h => h) (1 + (ns.length : Int)) (by omega) hlt
    have hnm : ∀ l : List (List UInt8), (∀ x ∈ l, x ∈ ns) → (l.map tlenN).sum ≤ 140737488351252 * (l.length : Int) := by
      intro l
      induction l with
      | nil => intro _; simp
      | cons x r ihr =>
        intro h
        have := hns x (h x (by simp)); have := ihr (fun y hy => h y (by simp [hy]))
        have := vcode_len x.length (by omega)
        simp only [List.map_cons, List.sum_cons, tlenN, List.length_cons]; omega
    have hN := hnm ns (fun _ h => h)
    have hz := vcode_len (zzN n) (zz_lt hn.1 hn.2)
    have hsl := vcode_len s.length (by omega)
    have hil2 := vcode_len is.length (by omega)
    have hpos : 0 ≤ sizeL is := by
      have : ∀ l : List Val, 0 ≤ sizeL l := by
        intro l
        induction l with
        | nil => simp [sizeL]
        | cons v r ihr => have := sizeV_pos v; simp only [sizeL]; omega
      exact this is
    have hN0 : (0 : Int) ≤ ns.length := by omega
    rw [sizeV]
    simp only [tlenN, clenN]
    repeat' split
    all_goals omega
theorem sizeW_eq {v : Val} (hok : okV v) (h : largeV v = false) : sizeW v = sizeV v := by
  simp only [largeV, decide_eq_false_iff_not] at h
  have h1 := size_nodes v hok 0 (by omega) (by omega) (by omega)
  have h2 := sizeV_pos v
  unfold sizeW
  rw [wrap_i64 (by omega) (by omega)]
theorem check_ok {v : Val} (h : checkV v = 0) : mayV v = true ∧ depthV v ≤ 8 ∧ sizeW v ≤ 4096 := by
  unfold checkV at h
  split at h
  · rename_i h1
    split at h
    · cases h
    · split at h
      · cases h
      · exact ⟨h1, by omega, by omega⟩
  · cases h
theorem vRd8 (x : Src) (hx : x.1.length ≤ 140737488355328) : Runs lp 18 [.ptr 0 0 0] (sto x) (encV (sRead x).1, sto (sRead x).2) := by
  have h := vRead 8 (by omega) x hx
  have ho := rdV_ok true 8 x
  unfold sRead
  rcases hv : rdV true 8 x with ⟨⟨k, n, s, is, ns⟩, x2⟩
  rw [hv] at h ho
  refine ifE (vRdA (x := x) (x2 := x2) h (fun _ => vCheck _ ho.1 (by have := ho.2; simp only at this; omega))) ?_
  cases hb : x2.2 with
  | true => simp only [if_true, true_or]; rfl
  | false =>
    by_cases hc : checkV (.mk k n s is ns) = 0
    · simp [hc]; exact hb
    · simp [hc]; exact ⟨rfl, rfl⟩
def dec (L : List UInt8) : Option Val := if sDone (sRead (L, false)).2 = 0 then some (sRead (L, false)).1 else none
theorem vDec {L : List UInt8} (hL : L.length ≤ 140737488355328) : Runs lp 12 [.p (.sl (bs L))] [] (match dec L with
    | some v => (.tup [encV v, .p (.int .i64 0)], [])
    | none => (.tup [.agg [.p (.int .i64 0), .p (.int .i64 0), .p (.str []), .tight [], .tight []], .p (.int .i64 10)], [])) := by
  have h := vRd8 (L, false) hL
  have hd := vDone (sRead (L, false)).2
  unfold dec
  generalize sRead (L, false) = q at h hd ⊢
  obtain ⟨⟨k, n, s, is, ns⟩, x2⟩ := q
  refine ifE (vDecA vfrom_p h hd) ?_
  by_cases hc : sDone x2 = 0
  · simp [hc]
  · simp [hc]
theorem sRead_enc {v : Val} (hok : okV v) (hc : checkV v = 0) (hs : sizeW v = sizeV v) (rest : List UInt8) : sRead (encC v ++ rest, false) = (v, rest, false) := by
  obtain ⟨h1, h2, h3⟩ := check_ok hc
  have := rdV_back true v hok h1 (by omega) 8 (by omega) rest
  unfold sRead
  rw [this, if_neg (by simp [hc])]
theorem dec_enc {v : Val} (hok : okV v) (hc : checkV v = 0) (hs : sizeW v = sizeV v) : dec (encC v) = some v := by
  have := sRead_enc hok hc hs []
  rw [List.append_nil] at this
  unfold dec
  rw [this]; rfl
theorem code_small {v : Val} (hc : checkV v = 0) (hs : sizeW v = sizeV v) : (encC v).length ≤ 4096 := by
  obtain ⟨m1, _, m3⟩ := check_ok hc
  have := encC_len v m1
  omega
theorem vEnc {v : Val} (hok : okV v) (hd : depthV v ≤ 1000000) (hs : checkV v = 0 → sizeW v = sizeV v) : Runs lp 9 [encV v] [] (if (checkV v == 0) = true then (.tup [.sl (bs (encC v)) 0 (encC v).length, .p (.int .i64 0)], [.spare 1 (encC v).length]) else (.tup [.tight [], .p (.int .i64 (checkV v))], [])) := by
  obtain ⟨k, n, s, is, ns⟩ := v
  exact vEncA (vCheck _ hok hd) (fun h => vPutN _ hok (check_ok (eq_of_beq h)).1 (by have := code_small (eq_of_beq h) (hs (eq_of_beq h)); omega))
end Go.Proofs.Ytmflmbfheaaglaa
