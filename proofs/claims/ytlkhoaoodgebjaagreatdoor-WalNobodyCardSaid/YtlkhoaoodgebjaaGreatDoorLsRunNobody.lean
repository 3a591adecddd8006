import Derived.Test.YtlkhoaoodgebjaaGreatDoorLsWl2
import Derived.Test.YtlkhoaoodgebjaaGreatDoorLsF
import Derived.Test.YtlkhoaoodgebjaaGreatDoorLsG6
import Derived.Test.YtlkhoaoodgebjaaGreatDoorLsG9
set_option linter.unusedVariables false
set_option linter.unusedSimpArgs false
set_option maxRecDepth 100000
namespace Go.Proofs.YtlkhoaoodgebjaaGreatDoor
open Go Go.LS
theorem wlready   :
    Runs lp 24 [(.p .nilp)] [] ((.p (.int .i64 6), [])) := by
  exact
    runO_sound (N := 100) (os := []) (ps := []) (by kernel_rfl) trivial
theorem wlFirst   :
    Runs lp 9 [(.p .nilp)] [] ((.p (.int .i64 0), [])) := by
  exact
    runO_sound (N := 100) (os := []) (ps := []) (by kernel_rfl) trivial
theorem wlNext   :
    Runs lp 10 [(.p .nilp)] [] ((.p (.int .i64 0), [])) := by
  exact
    runO_sound (N := 100) (os := []) (ps := []) (by kernel_rfl) trivial
theorem wlGet {n : Int}  :
    Runs lp 6 [(.p .nilp), .p (.int .i64 n)] [] (((.tup [(.tight []), .p (.int .i64 6)]), [])) := by
  exact
    runO_sound (N := 100) (os := []) (ps := []) (by kernel_rfl) trivial
theorem wlAppend {es : List (List PV)}  :
    Runs lp 7 [(.p .nilp), .p (.sl es)] [] (((.tup [.p (.int .i64 0), .p (.int .i64 6)]), [])) := by
  exact
    have q1 : Runs lp 24 [(.p .nilp)] [] (.p (.int .i64 6), []) := (wlready  )
    runO_sound (N := 100) (os := [(3, oC q1)]) (ps := [_]) (by kernel_rfl) ⟨q1, trivial⟩
theorem wlSync   :
    Runs lp 11 [(.p .nilp)] [] ((.p (.int .i64 6), [])) := by
  exact
    have q1 : Runs lp 24 [(.p .nilp)] [] (.p (.int .i64 6), []) := (wlready  )
    runO_sound (N := 100) (os := [(2, oC q1)]) (ps := [_]) (by kernel_rfl) ⟨q1, trivial⟩
theorem wlCutBehind {n : Int}  :
    Runs lp 12 [(.p .nilp), .p (.int .i64 n)] [] ((.p (.int .i64 6), [])) := by
  exact
    have q1 : Runs lp 24 [(.p .nilp)] [] (.p (.int .i64 6), []) := (wlready  )
    runO_sound (N := 100) (os := [(2, oC q1)]) (ps := [_]) (by kernel_rfl) ⟨q1, trivial⟩
theorem wlDropBelow {n : Int}  :
    Runs lp 13 [(.p .nilp), .p (.int .i64 n)] [] ((.p (.int .i64 6), [])) := by
  exact
    have q1 : Runs lp 24 [(.p .nilp)] [] (.p (.int .i64 6), []) := (wlready  )
    runO_sound (N := 100) (os := [(2, oC q1)]) (ps := [_]) (by kernel_rfl) ⟨q1, trivial⟩
theorem wlBegin {n : Int}  :
    Runs lp 14 [(.p .nilp), .p (.int .i64 n)] [] ((.p (.int .i64 6), [])) := by
  exact
    have q1 : Runs lp 24 [(.p .nilp)] [] (.p (.int .i64 6), []) := (wlready  )
    runO_sound (N := 100) (os := [(2, oC q1)]) (ps := [_]) (by kernel_rfl) ⟨q1, trivial⟩
theorem nobW {n m k : Int} {es : List (List PV)} {ks : List (List PV)}  :
    Runs lp 3 [(.agg [.p (.int .i64 k), .p (.int .i64 n), .p (.int .i64 m), .p (.sl es), .p (.sl ks)])] [] ((.p (.bool true), [])) := by
  exact
    have q1 : Runs lp 6 [(.p .nilp), .p (.int .i64 n)] [] ((.tup [(.tight []), .p (.int .i64 6)]), []) := (wlGet (n := n) )
    have q2 : Runs lp 7 [(.p .nilp), .p (.sl es)] [] ((.tup [.p (.int .i64 0), .p (.int .i64 6)]), []) := (wlAppend (es := es) )
    have q3 : Runs lp 8 [] [] (.p (.bool true), []) := wl8
    have q4 : Runs lp 9 [(.p .nilp)] [] (.p (.int .i64 0), []) := (wlFirst  )
    have q5 : Runs lp 10 [(.p .nilp)] [] (.p (.int .i64 0), []) := (wlNext  )
    have q6 : Runs lp 11 [(.p .nilp)] [] (.p (.int .i64 6), []) := (wlSync  )
    have q7 : Runs lp 12 [(.p .nilp), .p (.int .i64 n)] [] (.p (.int .i64 6), []) := (wlCutBehind (n := n) )
    have q8 : Runs lp 13 [(.p .nilp), .p (.int .i64 n)] [] (.p (.int .i64 6), []) := (wlDropBelow (n := n) )
    have q9 : Runs lp 14 [(.p .nilp), .p (.int .i64 n)] [] (.p (.int .i64 6), []) := (wlBegin (n := n) )
    runO_sound (N := 100) (os := [(6, oC q1), (8, oC q2), (5, oC q3), (4, oC q4), (7, oC q5), (33, oC q6), (11, oC q7), (11, oC q8), (11, oC q9)]) (ps := [_, _, _, _, _, _, _, _, _]) (by kernel_rfl) ⟨q1, q2, q3, q4, q5, q6, q7, q8, q9, trivial⟩
theorem run3 : ∀ vs, OkArgs [(true, [.int .i64, .int .i64, .int .i64, .sl [.int .u8] 1, .sl [.str, .int .i64] 24])] vs → ∃ k st', runF lp k 3 vs [] = some (.p (.bool true), st') := by
  intro vs h
  obtain ⟨p0, v0, rfl, h0, g0⟩ := okArg h
  obtain ⟨k, p0, rfl, _, h0⟩ := okI h0
  obtain ⟨n, p0, rfl, _, h0⟩ := okI h0
  obtain ⟨m, p0, rfl, _, h0⟩ := okI h0
  obtain ⟨es, p0, rfl, _, h0⟩ := okSl h0
  obtain ⟨ks, p0, rfl, _, h0⟩ := okSl h0
  obtain rfl := okNil h0
  obtain rfl := okEnd g0
  obtain ⟨q, hq⟩ := nobW (n := n) (m := m) (k := k) (es := es) (ks := ks)
  exact ⟨q, _, hq⟩
end Go.Proofs.YtlkhoaoodgebjaaGreatDoor
