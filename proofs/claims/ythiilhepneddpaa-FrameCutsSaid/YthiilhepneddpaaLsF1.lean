/- Functions of the program in LS, each with the proof that it is the loaded one. -/
import Derived.Test.YthiilhepneddpaaLsG5
import Derived.Test.YthiilhepneddpaaProg
import Derived.KernelRfl
set_option maxRecDepth 100000
namespace Go.Proofs.Ythiilhepneddpaa
open Go.LS

def lf2 : LFn := ⟨1, [],
 .region [⟨(some 0), .fail, none⟩]⟩
theorem cf2 : compF Try.prog (fun _ _ => false) Try.f2 = some lf2 := by kernel_rfl
theorem fr2 : FR Try.prog 2 lf2 := compF_sound (by kernel_rfl) Try.func2 (by kernel_rfl) cf2

def lf3 : LFn := ⟨15, [.tmp 2],
 .seq (.region [⟨(some 2), .mv (.const (.p (.bool false))), none⟩])
 (.seq (.seq (.region [⟨(some 3), .mv (.tmp 0), none⟩, ⟨(some 4), .len (.tmp 3), none⟩, ⟨(some 5), .bin .gtr (.tmp 4) (.const (.p (.int .i64 131072))), none⟩])
 (.cond (.tmp 5) (.seq (.region [⟨(some 6), .call 7 [], none⟩, ⟨(some 2), .mv (.tmp 6), none⟩])
 (.ret [false, false, true, false, false, false, false, false, false, false, false, false, false, false, false]))
 (.skip)))
 (.seq (.region [⟨(some 7), .call 7 [], none⟩, ⟨(some 8), .mv (.tmp 7), none⟩, ⟨(some 9), .mv (.tmp 0), (some (8, true))⟩, ⟨(some 10), .call 8 [(.tmp 9)], (some (8, true))⟩, ⟨(some 11), .mv (.tmp 0), (some (8, true))⟩, ⟨(some 12), .call 9 [(.tmp 11)], (some (8, true))⟩, ⟨(some 13), .bin .eql (.tmp 10) (.tmp 12), (some (8, true))⟩, ⟨(some 14), .pick (.tmp 8) (.tmp 13) (.const (.p (.bool false))), none⟩, ⟨(some 2), .mv (.tmp 14), none⟩])
 (.ret [false, false, true, false, false, false, false, false, false, false, false, false, false, false, false])))⟩
theorem cf3 : compF Try.prog (fun _ _ => false) Try.f3 = some lf3 := by kernel_rfl
theorem fr3 : FR Try.prog 3 lf3 := compF_sound (by kernel_rfl) Try.func3 (by kernel_rfl) cf3

def lf4 : LFn := ⟨70, [.tmp 4],
 .seq (.region [⟨(some 4), .mv (.const (.p (.bool false))), none⟩])
 (.seq (.seq (.region [⟨(some 9), .mv (.tmp 1), none⟩, ⟨(some 10), .len (.tmp 9), none⟩, ⟨(some 11), .bin .gtr (.tmp 10) (.const (.p (.int .i64 131072))), none⟩])
 (.cond (.tmp 11) (.seq (.region [⟨(some 12), .call 7 [], none⟩, ⟨(some 4), .mv (.tmp 12), none⟩])
 (.ret [false, false, false, false, true, false, false, false, false, false, false, false, false, false, false, false, false, false, false, false, false, false, false, false, false, false, false, false, false, false, false, false, false, false, false, false, false, false, false, false, false, false, false, false, false, false, false, false, false, false, false, false, false, false, false, false, false, false, false, false, false, false, false, false, false, false, false, false, false, false]))
 (.skip)))
 (.seq (.region [⟨(some 13), .mv (.tmp 0), none⟩, ⟨(some 14), .len (.tmp 13), none⟩, ⟨(some 15), .bin .add (.tmp 14) (.const (.p (.int .i64 9))), none⟩, ⟨(some 16), .mkslice 1 1 [(.p (.int .u8 0))] (.const (.p (.int .i64 0))) (.tmp 15), none⟩, ⟨(some 17), .mv (.tmp 0), none⟩, ⟨(some 18), .append false 1 1 (.tmp 16) (.tmp 17), none⟩, ⟨(some 5), .mv (.tmp 18), none⟩])
 (.seq (.region [⟨(some 20), .mv (.tmp 5), none⟩, ⟨(some 21), .mv (.tmp 1), none⟩, ⟨(some 22), .call 10 [(.tmp 20), (.tmp 21)], none⟩, ⟨(some 19), .mv (.tmp 22), none⟩, ⟨(some 23), .extract (.tmp 19) 0, none⟩, ⟨(some 24), .extract (.tmp 19) 1, none⟩, ⟨(some 6), .mv (.tmp 23), none⟩, ⟨(some 7), .mv (.tmp 24), none⟩])
 (.seq (.seq (.region [⟨(some 25), .call 7 [], none⟩, ⟨(some 26), .un .not (.tmp 25), none⟩, ⟨(some 27), .mv (.tmp 26), none⟩, ⟨(some 28), .mv (.tmp 5), (some (27, false))⟩, ⟨(some 29), .cv .b2s (.tmp 28), (some (27, false))⟩, ⟨(some 30), .mv (.tmp 0), (some (27, false))⟩, ⟨(some 31), .cv .b2s (.tmp 30), (some (27, false))⟩, ⟨(some 32), .bin .neq (.tmp 29) (.tmp 31), (some (27, false))⟩, ⟨(some 33), .pick (.tmp 27) (.const (.p (.bool true))) (.tmp 32), none⟩])
 (.cond (.tmp 33) (.seq (.region [⟨(some 4), .mv (.const (.p (.bool false))), none⟩])
 (.ret [false, false, false, false, true, false, false, false, false, false, false, false, false, false, false, false, false, false, false, false, false, false, false, false, false, false, false, false, false, false, false, false, false, false, false, false, false, false, false, false, false, false, false, false, false, false, false, false, false, false, false, false, false, false, false, false, false, false, false, false, false, false, false, false, false, false, false, false, false, false]))
 (.skip)))
 (.seq (.seq (.region [⟨(some 34), .mv (.tmp 1), none⟩, ⟨(some 35), .len (.tmp 34), none⟩, ⟨(some 36), .bin .gtr (.tmp 35) (.const (.p (.int .i64 65536))), none⟩])
 (.cond (.tmp 36) (.seq (.region [⟨(some 37), .mv (.tmp 6), none⟩, ⟨(some 38), .len (.tmp 37), none⟩, ⟨(some 39), .bin .eql (.tmp 38) (.const (.p (.int .i64 0))), none⟩, ⟨(some 40), .mv (.tmp 39), none⟩, ⟨(some 41), .mv (.tmp 7), (some (40, true))⟩, ⟨(some 42), .bin .eql (.tmp 41) (.const (.p (.int .i64 3))), (some (40, true))⟩, ⟨(some 43), .pick (.tmp 40) (.tmp 42) (.const (.p (.bool false))), none⟩, ⟨(some 44), .mv (.tmp 43), none⟩, ⟨(some 45), .mv (.tmp 1), (some (44, true))⟩, ⟨(some 46), .call 11 [(.tmp 45)], (some (44, true))⟩, ⟨(some 47), .bin .eql (.tmp 46) (.const (.p (.int .i64 0))), (some (44, true))⟩, ⟨(some 48), .pick (.tmp 44) (.tmp 47) (.const (.p (.bool false))), none⟩, ⟨(some 4), .mv (.tmp 48), none⟩])
 (.ret [false, false, false, false, true, false, false, false, false, false, false, false, false, false, false, false, false, false, false, false, false, false, false, false, false, false, false, false, false, false, false, false, false, false, false, false, false, false, false, false, false, false, false, false, false, false, false, false, false, false, false, false, false, false, false, false, false, false, false, false, false, false, false, false, false, false, false, false, false, false]))
 (.skip)))
 (.seq (.region [⟨(some 49), .mv (.tmp 1), none⟩, ⟨(some 50), .call 12 [(.tmp 49)], none⟩, ⟨(some 8), .mv (.tmp 50), none⟩])
 (.seq (.region [⟨(some 51), .mv (.tmp 7), none⟩, ⟨(some 52), .bin .eql (.tmp 51) (.const (.p (.int .i64 0))), none⟩, ⟨(some 53), .mv (.tmp 52), none⟩, ⟨(some 54), .mv (.tmp 6), (some (53, true))⟩, ⟨(some 55), .cv .b2s (.tmp 54), (some (53, true))⟩, ⟨(some 56), .mv (.tmp 0), (some (53, true))⟩, ⟨(some 57), .cv .b2s (.tmp 56), (some (53, true))⟩, ⟨(some 58), .mv (.tmp 8), (some (53, true))⟩, ⟨(some 59), .cv .b2s (.tmp 58), (some (53, true))⟩, ⟨(some 60), .bin .add (.tmp 57) (.tmp 59), (some (53, true))⟩, ⟨(some 61), .bin .eql (.tmp 55) (.tmp 60), (some (53, true))⟩, ⟨(some 62), .pick (.tmp 53) (.tmp 61) (.const (.p (.bool false))), none⟩, ⟨(some 63), .mv (.tmp 62), none⟩, ⟨(some 64), .mv (.tmp 1), (some (63, true))⟩, ⟨(some 65), .call 11 [(.tmp 64)], (some (63, true))⟩, ⟨(some 66), .mv (.tmp 8), (some (63, true))⟩, ⟨(some 67), .len (.tmp 66), (some (63, true))⟩, ⟨(some 68), .bin .eql (.tmp 65) (.tmp 67), (some (63, true))⟩, ⟨(some 69), .pick (.tmp 63) (.tmp 68) (.const (.p (.bool false))), none⟩, ⟨(some 4), .mv (.tmp 69), none⟩])
 (.ret [false, false, false, false, true, false, false, false, false, false, false, false, false, false, false, false, false, false, false, false, false, false, false, false, false, false, false, false, false, false, false, false, false, false, false, false, false, false, false, false, false, false, false, false, false, false, false, false, false, false, false, false, false, false, false, false, false, false, false, false, false, false, false, false, false, false, false, false, false, false]))))))))⟩
theorem cf4 : compF Try.prog (fun _ _ => false) Try.f4 = some lf4 := by kernel_rfl
theorem fr4 : FR Try.prog 4 lf4 := compF_sound (by kernel_rfl) Try.func4 (by kernel_rfl) cf4

def lf5 : LFn := ⟨34, [.tmp 2],
 .seq (.region [⟨(some 2), .mv (.const (.p (.bool false))), none⟩])
 (.seq (.seq (.region [⟨(some 7), .mv (.tmp 0), none⟩, ⟨(some 8), .len (.tmp 7), none⟩, ⟨(some 9), .bin .gtr (.tmp 8) (.const (.p (.int .i64 5000))), none⟩])
 (.cond (.tmp 9) (.seq (.region [⟨(some 10), .call 7 [], none⟩, ⟨(some 2), .mv (.tmp 10), none⟩])
 (.ret [false, false, true, false, false, false, false, false, false, false, false, false, false, false, false, false, false, false, false, false, false, false, false, false, false, false, false, false, false, false, false, false, false, false]))
 (.skip)))
 (.seq (.region [⟨(some 12), .mkrow false 1 0 [(.p (.int .u8 0))] [], none⟩, ⟨(some 13), .mv (.tmp 0), none⟩, ⟨(some 14), .append false 1 1 (.tmp 12) (.tmp 13), none⟩, ⟨(some 15), .call 13 [(.tmp 14)], none⟩, ⟨(some 11), .mv (.tmp 15), none⟩, ⟨(some 16), .extract (.tmp 11) 0, none⟩, ⟨(some 17), .extract (.tmp 11) 1, none⟩, ⟨(some 3), .mv (.tmp 16), none⟩, ⟨(some 4), .mv (.tmp 17), none⟩])
 (.seq (.region [⟨(some 19), .mv (.tmp 0), none⟩, ⟨(some 20), .call 14 [(.tmp 19)], none⟩, ⟨(some 18), .mv (.tmp 20), none⟩, ⟨(some 21), .extract (.tmp 18) 0, none⟩, ⟨(some 22), .extract (.tmp 18) 1, none⟩, ⟨(some 5), .mv (.tmp 21), none⟩, ⟨(some 6), .mv (.tmp 22), none⟩])
 (.seq (.region [⟨(some 23), .call 7 [], none⟩, ⟨(some 24), .mv (.tmp 23), none⟩, ⟨(some 25), .mv (.tmp 3), (some (24, true))⟩, ⟨(some 26), .mv (.tmp 5), (some (24, true))⟩, ⟨(some 27), .call 15 [(.tmp 25), (.tmp 26)], (some (24, true))⟩, ⟨(some 28), .pick (.tmp 24) (.tmp 27) (.const (.p (.bool false))), none⟩, ⟨(some 29), .mv (.tmp 28), none⟩, ⟨(some 30), .mv (.tmp 4), (some (29, true))⟩, ⟨(some 31), .mv (.tmp 6), (some (29, true))⟩, ⟨(some 32), .bin .eql (.tmp 30) (.tmp 31), (some (29, true))⟩, ⟨(some 33), .pick (.tmp 29) (.tmp 32) (.const (.p (.bool false))), none⟩, ⟨(some 2), .mv (.tmp 33), none⟩])
 (.ret [false, false, true, false, false, false, false, false, false, false, false, false, false, false, false, false, false, false, false, false, false, false, false, false, false, false, false, false, false, false, false, false, false, false])))))⟩
theorem cf5 : compF Try.prog (fun _ _ => false) Try.f5 = some lf5 := by kernel_rfl
theorem fr5 : FR Try.prog 5 lf5 := compF_sound (by kernel_rfl) Try.func5 (by kernel_rfl) cf5

def lf6 : LFn := ⟨92, [.tmp 4],
 .seq (.region [⟨(some 4), .mv (.const (.p (.bool false))), none⟩])
 (.seq (.region [⟨(some 5), .mv (.const (.p (.int .i64 0))), none⟩])
 (.seq (.region [⟨(some 6), .mv (.const (.tight [])), none⟩])
 (.seq (.seq (.region [⟨(some 7), .mv (.const (.p (.int .i64 0))), none⟩])
 (.block 0 [true, true, false, false, false, true, true, false, false, false, false, false, false, false, false, false, false, false, false, false, false, false, false, false, false, false, false, false, false, false, false, false, false, false, false, false, false, false, false, false, false, false, false, false, false, false, false, false, false, false, false, false, false, false, false, false, false, false, false, false, false, false, false, false, false, false, false, false, false, false, false, false, false, false, false, false, false, false, false, false, false, false, false, false, false, false, false, false, false, false, false, false] (.loop [true, true, false, false, false, true, true, true, false, false, false, false, false, false, false, false, false, false, false, false, false, false, false, false, false, false, false, false, false, false, false, false, false, false, false, false, false, false, false, false, false, false, false, false, false, false, false, false, false, false, false, false, false, false, false, false, false, false, false, false, false, false, false, false, false, false, false, false, false, false, false, false, false, false, false, false, false, false, false, false, false, false, false, false, false, false, false, false, false, false, false, false] (.seq (.seq (.region [⟨(some 11), .mv (.tmp 7), none⟩, ⟨(some 12), .mv (.tmp 0), none⟩, ⟨(some 13), .len (.tmp 12), none⟩, ⟨(some 14), .bin .lss (.tmp 11) (.tmp 13), none⟩])
 (.cond (.tmp 14) (.skip)
 (.exit 0 [true, true, false, false, false, true, true, false, false, false, false, false, false, false, false, false, false, false, false, false, false, false, false, false, false, false, false, false, false, false, false, false, false, false, false, false, false, false, false, false, false, false, false, false, false, false, false, false, false, false, false, false, false, false, false, false, false, false, false, false, false, false, false, false, false, false, false, false, false, false, false, false, false, false, false, false, false, false, false, false, false, false, false, false, false, false, false, false, false, false, false, false])))
 (.seq (.block 1 [true, true, false, false, false, true, true, true, false, false, false, false, false, false, false, false, false, false, false, false, false, false, false, false, false, false, false, false, false, false, false, false, false, false, false, false, false, false, false, false, false, false, false, false, false, false, false, false, false, false, false, false, false, false, false, false, false, false, false, false, false, false, false, false, false, false, false, false, false, false, false, false, false, false, false, false, false, false, false, false, false, false, false, false, false, false, false, false, false, false, false, false] (.seq (.seq (.region [⟨(some 17), .mv (.tmp 7), none⟩, ⟨(some 18), .bin .geq (.tmp 17) (.const (.p (.int .i64 50))), none⟩, ⟨(some 19), .mv (.tmp 18), none⟩, ⟨(some 20), .mv (.tmp 0), (some (19, false))⟩, ⟨(some 21), .mv (.tmp 7), (some (19, false))⟩, ⟨(some 22), .indexAddr 1 (.tmp 20) (.tmp 21), (some (19, false))⟩, ⟨(some 23), .load false 1 (.tmp 22), (some (19, false))⟩, ⟨(some 24), .len (.tmp 23), (some (19, false))⟩, ⟨(some 25), .bin .gtr (.tmp 24) (.const (.p (.int .i64 500))), (some (19, false))⟩, ⟨(some 26), .pick (.tmp 19) (.const (.p (.bool true))) (.tmp 25), none⟩])
 (.cond (.tmp 26) (.seq (.region [⟨(some 27), .call 7 [], none⟩, ⟨(some 4), .mv (.tmp 27), none⟩])
 (.ret [false, false, false, false, true, false, false, false, false, false, false, false, false, false, false, false, false, false, false, false, false, false, false, false, false, false, false, false, false, false, false, false, false, false, false, false, false, false, false, false, false, false, false, false, false, false, false, false, false, false, false, false, false, false, false, false, false, false, false, false, false, false, false, false, false, false, false, false, false, false, false, false, false, false, false, false, false, false, false, false, false, false, false, false, false, false, false, false, false, false, false, false]))
 (.skip)))
 (.region [⟨(some 28), .mv (.tmp 6), none⟩, ⟨(some 29), .mv (.tmp 0), none⟩, ⟨(some 30), .mv (.tmp 7), none⟩, ⟨(some 31), .indexAddr 1 (.tmp 29) (.tmp 30), none⟩, ⟨(some 32), .load false 1 (.tmp 31), none⟩, ⟨(some 33), .call 12 [(.tmp 32)], none⟩, ⟨(some 34), .append false 1 1 (.tmp 28) (.tmp 33), none⟩, ⟨(some 6), .mv (.tmp 34), none⟩])))
 (.region [⟨(some 15), .mv (.tmp 7), none⟩, ⟨(some 16), .bin .add (.tmp 15) (.const (.p (.int .i64 1))), none⟩, ⟨(some 7), .mv (.tmp 16), none⟩]))))))
 (.seq (.seq (.region [⟨(some 35), .mv (.tmp 1), none⟩, ⟨(some 36), .bin .lss (.tmp 35) (.const (.p (.int .i64 0))), none⟩, ⟨(some 37), .mv (.tmp 36), none⟩, ⟨(some 38), .mv (.tmp 1), (some (37, false))⟩, ⟨(some 39), .mv (.tmp 6), (some (37, false))⟩, ⟨(some 40), .len (.tmp 39), (some (37, false))⟩, ⟨(some 41), .bin .gtr (.tmp 38) (.tmp 40), (some (37, false))⟩, ⟨(some 42), .pick (.tmp 37) (.const (.p (.bool true))) (.tmp 41), none⟩])
 (.cond (.tmp 42) (.seq (.region [⟨(some 43), .call 7 [], none⟩, ⟨(some 4), .mv (.tmp 43), none⟩])
 (.ret [false, false, false, false, true, false, false, false, false, false, false, false, false, false, false, false, false, false, false, false, false, false, false, false, false, false, false, false, false, false, false, false, false, false, false, false, false, false, false, false, false, false, false, false, false, false, false, false, false, false, false, false, false, false, false, false, false, false, false, false, false, false, false, false, false, false, false, false, false, false, false, false, false, false, false, false, false, false, false, false, false, false, false, false, false, false, false, false, false, false, false, false]))
 (.skip)))
 (.seq (.region [⟨(some 8), .mv (.const (.p (.int .i64 0))), none⟩])
 (.seq (.block 2 [true, true, false, false, false, true, true, false, true, false, false, false, false, false, false, false, false, false, false, false, false, false, false, false, false, false, false, false, false, false, false, false, false, false, false, false, false, false, false, false, false, false, false, false, false, false, false, false, false, false, false, false, false, false, false, false, false, false, false, false, false, false, false, false, false, false, false, false, false, false, false, false, false, false, false, false, false, false, false, false, false, false, false, false, false, false, false, false, false, false, false, false] (.loop [true, true, false, false, false, true, true, false, true, false, false, false, false, false, false, false, false, false, false, false, false, false, false, false, false, false, false, false, false, false, false, false, false, false, false, false, false, false, false, false, false, false, false, false, false, false, false, false, false, false, false, false, false, false, false, false, false, false, false, false, false, false, false, false, false, false, false, false, false, false, false, false, false, false, false, false, false, false, false, false, false, false, false, false, false, false, false, false, false, false, false, false] (.seq (.seq (.region [⟨(some 44), .mv (.tmp 8), none⟩, ⟨(some 45), .mv (.tmp 0), none⟩, ⟨(some 46), .len (.tmp 45), none⟩, ⟨(some 47), .bin .lss (.tmp 44) (.tmp 46), none⟩, ⟨(some 48), .mv (.tmp 47), none⟩, ⟨(some 49), .mv (.tmp 5), (some (48, true))⟩, ⟨(some 50), .mv (.tmp 0), (some (48, true))⟩, ⟨(some 51), .mv (.tmp 8), (some (48, true))⟩, ⟨(some 52), .indexAddr 1 (.tmp 50) (.tmp 51), (some (48, true))⟩, ⟨(some 53), .load false 1 (.tmp 52), (some (48, true))⟩, ⟨(some 54), .call 12 [(.tmp 53)], (some (48, true))⟩, ⟨(some 55), .len (.tmp 54), (some (48, true))⟩, ⟨(some 56), .bin .add (.tmp 49) (.tmp 55), (some (48, true))⟩, ⟨(some 57), .mv (.tmp 1), (some (48, true))⟩, ⟨(some 58), .bin .leq (.tmp 56) (.tmp 57), (some (48, true))⟩, ⟨(some 59), .pick (.tmp 48) (.tmp 58) (.const (.p (.bool false))), none⟩])
 (.cond (.tmp 59) (.skip)
 (.exit 2 [true, true, false, false, false, true, true, false, true, false, false, false, false, false, false, false, false, false, false, false, false, false, false, false, false, false, false, false, false, false, false, false, false, false, false, false, false, false, false, false, false, false, false, false, false, false, false, false, false, false, false, false, false, false, false, false, false, false, false, false, false, false, false, false, false, false, false, false, false, false, false, false, false, false, false, false, false, false, false, false, false, false, false, false, false, false, false, false, false, false, false, false])))
 (.block 3 [true, true, false, false, false, true, true, false, true, false, false, false, false, false, false, false, false, false, false, false, false, false, false, false, false, false, false, false, false, false, false, false, false, false, false, false, false, false, false, false, false, false, false, false, false, false, false, false, false, false, false, false, false, false, false, false, false, false, false, false, false, false, false, false, false, false, false, false, false, false, false, false, false, false, false, false, false, false, false, false, false, false, false, false, false, false, false, false, false, false, false, false] (.seq (.region [⟨(some 60), .mv (.tmp 5), none⟩, ⟨(some 61), .mv (.tmp 0), none⟩, ⟨(some 62), .mv (.tmp 8), none⟩, ⟨(some 63), .indexAddr 1 (.tmp 61) (.tmp 62), none⟩, ⟨(some 64), .load false 1 (.tmp 63), none⟩, ⟨(some 65), .call 12 [(.tmp 64)], none⟩, ⟨(some 66), .len (.tmp 65), none⟩, ⟨(some 67), .bin .add (.tmp 60) (.tmp 66), none⟩, ⟨(some 5), .mv (.tmp 67), none⟩])
 (.region [⟨(some 68), .mv (.tmp 8), none⟩, ⟨(some 69), .bin .add (.tmp 68) (.const (.p (.int .i64 1))), none⟩, ⟨(some 8), .mv (.tmp 69), none⟩]))))))
 (.seq (.region [⟨(some 71), .mkrow false 1 0 [(.p (.int .u8 0))] [], none⟩, ⟨(some 72), .mv (.tmp 6), none⟩, ⟨(some 73), .mv (.tmp 1), none⟩, ⟨(some 74), .slice 1 (.tmp 72) none (some (.tmp 73)) none, none⟩, ⟨(some 75), .append false 1 1 (.tmp 71) (.tmp 74), none⟩, ⟨(some 76), .call 13 [(.tmp 75)], none⟩, ⟨(some 70), .mv (.tmp 76), none⟩, ⟨(some 77), .extract (.tmp 70) 0, none⟩, ⟨(some 78), .extract (.tmp 70) 1, none⟩, ⟨(some 9), .mv (.tmp 77), none⟩, ⟨(some 10), .mv (.tmp 78), none⟩])
 (.seq (.region [⟨(some 79), .call 7 [], none⟩, ⟨(some 80), .mv (.tmp 79), none⟩, ⟨(some 81), .mv (.tmp 9), (some (80, true))⟩, ⟨(some 82), .mv (.tmp 0), (some (80, true))⟩, ⟨(some 83), .mv (.tmp 8), (some (80, true))⟩, ⟨(some 84), .slice 1 (.tmp 82) none (some (.tmp 83)) none, (some (80, true))⟩, ⟨(some 85), .call 15 [(.tmp 81), (.tmp 84)], (some (80, true))⟩, ⟨(some 86), .pick (.tmp 80) (.tmp 85) (.const (.p (.bool false))), none⟩, ⟨(some 87), .mv (.tmp 86), none⟩, ⟨(some 88), .mv (.tmp 10), (some (87, true))⟩, ⟨(some 89), .mv (.tmp 5), (some (87, true))⟩, ⟨(some 90), .bin .eql (.tmp 88) (.tmp 89), (some (87, true))⟩, ⟨(some 91), .pick (.tmp 87) (.tmp 90) (.const (.p (.bool false))), none⟩, ⟨(some 4), .mv (.tmp 91), none⟩])
 (.ret [false, false, false, false, true, false, false, false, false, false, false, false, false, false, false, false, false, false, false, false, false, false, false, false, false, false, false, false, false, false, false, false, false, false, false, false, false, false, false, false, false, false, false, false, false, false, false, false, false, false, false, false, false, false, false, false, false, false, false, false, false, false, false, false, false, false, false, false, false, false, false, false, false, false, false, false, false, false, false, false, false, false, false, false, false, false, false, false, false, false, false, false])))))))))⟩
theorem cf6 : compF Try.prog (fun _ _ => false) Try.f6 = some lf6 := by kernel_rfl
theorem fr6 : FR Try.prog 6 lf6 := compF_sound (by kernel_rfl) Try.func6 (by kernel_rfl) cf6

def lf7 : LFn := ⟨52, [.tmp 0],
 .seq (.region [⟨(some 0), .mv (.const (.p (.bool false))), none⟩])
 (.seq (.region [⟨(some 6), .mkrow true 1 1 [(.p (.int .u8 0))] [(0, (.const (.p (.int .u8 120))))], none⟩, ⟨(some 7), .retire (.tmp 6), none⟩, ⟨(some 8), .mkrow true 1 2 [(.p (.int .u8 0))] [(0, (.const (.p (.int .u8 97)))), (1, (.const (.p (.int .u8 98))))], none⟩, ⟨(some 9), .retire (.tmp 8), none⟩, ⟨(some 10), .call 10 [(.tmp 7), (.tmp 9)], none⟩, ⟨(some 5), .mv (.tmp 10), none⟩, ⟨(some 11), .extract (.tmp 5) 0, none⟩, ⟨(some 12), .extract (.tmp 5) 1, none⟩, ⟨(some 1), .mv (.tmp 11), none⟩, ⟨(some 2), .mv (.tmp 12), none⟩])
 (.seq (.seq (.region [⟨(some 13), .mv (.tmp 1), none⟩, ⟨(some 14), .len (.tmp 13), none⟩, ⟨(some 15), .bin .neq (.tmp 14) (.const (.p (.int .i64 8))), none⟩])
 (.cond (.tmp 15) (.seq (.region [⟨(some 0), .mv (.const (.p (.bool false))), none⟩])
 (.ret [true, false, false, false, false, false, false, false, false, false, false, false, false, false, false, false, false, false, false, false, false, false, false, false, false, false, false, false, false, false, false, false, false, false, false, false, false, false, false, false, false, false, false, false, false, false, false, false, false, false, false, false]))
 (.skip)))
 (.seq (.region [⟨(some 17), .mv (.tmp 1), none⟩, ⟨(some 18), .slice 1 (.tmp 17) (some (.const (.p (.int .i64 1)))) none none, none⟩, ⟨(some 19), .call 13 [(.tmp 18)], none⟩, ⟨(some 16), .mv (.tmp 19), none⟩, ⟨(some 20), .extract (.tmp 16) 0, none⟩, ⟨(some 21), .extract (.tmp 16) 1, none⟩, ⟨(some 3), .mv (.tmp 20), none⟩, ⟨(some 4), .mv (.tmp 21), none⟩])
 (.seq (.region [⟨(some 22), .mv (.tmp 2), none⟩, ⟨(some 23), .bin .eql (.tmp 22) (.const (.p (.int .i64 0))), none⟩, ⟨(some 24), .mv (.tmp 23), none⟩, ⟨(some 25), .mv (.tmp 3), (some (24, true))⟩, ⟨(some 26), .len (.tmp 25), (some (24, true))⟩, ⟨(some 27), .bin .eql (.tmp 26) (.const (.p (.int .i64 1))), (some (24, true))⟩, ⟨(some 28), .pick (.tmp 24) (.tmp 27) (.const (.p (.bool false))), none⟩, ⟨(some 29), .mv (.tmp 28), none⟩, ⟨(some 30), .mv (.tmp 3), (some (29, true))⟩, ⟨(some 31), .indexAddr 1 (.tmp 30) (.const (.p (.int .i64 0))), (some (29, true))⟩, ⟨(some 32), .load false 1 (.tmp 31), (some (29, true))⟩, ⟨(some 33), .cv .b2s (.tmp 32), (some (29, true))⟩, ⟨(some 34), .bin .eql (.tmp 33) (.const (.p (.str [97, 98]))), (some (29, true))⟩, ⟨(some 35), .pick (.tmp 29) (.tmp 34) (.const (.p (.bool false))), none⟩, ⟨(some 36), .mv (.tmp 35), none⟩, ⟨(some 37), .mv (.tmp 4), (some (36, true))⟩, ⟨(some 38), .bin .eql (.tmp 37) (.const (.p (.int .i64 7))), (some (36, true))⟩, ⟨(some 39), .pick (.tmp 36) (.tmp 38) (.const (.p (.bool false))), none⟩, ⟨(some 40), .mv (.tmp 39), none⟩, ⟨(some 41), .mkrow true 1 9 [(.p (.int .u8 0))] [(0, (.const (.p (.int .u8 49)))), (1, (.const (.p (.int .u8 50)))), (2, (.const (.p (.int .u8 51)))), (3, (.const (.p (.int .u8 52)))), (4, (.const (.p (.int .u8 53)))), (5, (.const (.p (.int .u8 54)))), (6, (.const (.p (.int .u8 55)))), (7, (.const (.p (.int .u8 56)))), (8, (.const (.p (.int .u8 57))))], (some (40, true))⟩, ⟨(some 42), .retire (.tmp 41), (some (40, true))⟩, ⟨(some 43), .call 8 [(.tmp 42)], (some (40, true))⟩, ⟨(some 44), .bin .eql (.tmp 43) (.const (.p (.int .i64 3421780262))), (some (40, true))⟩, ⟨(some 45), .pick (.tmp 40) (.tmp 44) (.const (.p (.bool false))), none⟩, ⟨(some 46), .mv (.tmp 45), none⟩, ⟨(some 47), .mkrow true 1 2 [(.p (.int .u8 0))] [(0, (.const (.p (.int .u8 97)))), (1, (.const (.p (.int .u8 98))))], (some (46, true))⟩, ⟨(some 48), .retire (.tmp 47), (some (46, true))⟩, ⟨(some 49), .call 11 [(.tmp 48)], (some (46, true))⟩, ⟨(some 50), .bin .eql (.tmp 49) (.const (.p (.int .i64 7))), (some (46, true))⟩, ⟨(some 51), .pick (.tmp 46) (.tmp 50) (.const (.p (.bool false))), none⟩, ⟨(some 0), .mv (.tmp 51), none⟩])
 (.ret [true, false, false, false, false, false, false, false, false, false, false, false, false, false, false, false, false, false, false, false, false, false, false, false, false, false, false, false, false, false, false, false, false, false, false, false, false, false, false, false, false, false, false, false, false, false, false, false, false, false, false, false])))))⟩
theorem cf7 : compF Try.prog (fun _ _ => false) Try.f7 = some lf7 := by kernel_rfl
theorem fr7 : FR Try.prog 7 lf7 := compF_sound (by kernel_rfl) Try.func7 (by kernel_rfl) cf7

def lf8 : LFn := ⟨25, [.tmp 2],
 .seq (.region [⟨(some 2), .mv (.const (.p (.int .i64 0))), none⟩])
 (.seq (.region [⟨(some 3), .mv (.const (.p (.int .u32 4294967295))), none⟩])
 (.seq (.seq (.region [⟨(some 6), .mv (.tmp 0), none⟩, ⟨(some 7), .len (.tmp 6), none⟩, ⟨(some 8), .mv (.const (.p (.int .i64 0))), none⟩])
 (.block 0 [false, false, false, true, false, false, false, false, false, false, false, false, false, false, false, false, false, false, false, false, false, false, false, false, false] (.loop [false, false, false, true, false, false, true, true, true, false, false, false, false, false, false, false, false, false, false, false, false, false, false, false, false] (.seq (.region [⟨(some 9), .bin .lss (.tmp 8) (.tmp 7), none⟩])
 (.seq (.cond (.tmp 9) (.skip)
 (.exit 0 [false, false, false, true, false, false, false, false, false, false, false, false, false, false, false, false, false, false, false, false, false, false, false, false, false]))
 (.seq (.block 1 [false, false, false, true, false, false, true, true, true, false, false, false, false, false, false, false, false, false, false, false, false, false, false, false, false] (.seq (.region [⟨(some 10), .indexAddr 1 (.tmp 6) (.tmp 8), none⟩, ⟨(some 11), .load false 1 (.tmp 10), none⟩, ⟨(some 5), .mv (.tmp 11), none⟩])
 (.seq (.region [⟨(some 12), .mv (.tmp 3), none⟩, ⟨(some 13), .mv (.tmp 5), none⟩, ⟨(some 14), .cv (.int .u32) (.tmp 13), none⟩, ⟨(some 15), .bin .xor (.tmp 12) (.tmp 14), none⟩, ⟨(some 3), .mv (.tmp 15), none⟩])
 (.seq (.region [⟨(some 16), .mv (.const (.p (.int .i64 0))), none⟩])
 (.block 2 [false, false, false, true, false, false, true, true, true, false, false, false, false, false, false, false, false, false, false, false, false, false, false, false, false] (.loop [false, false, false, true, false, false, true, true, true, false, false, false, false, false, false, false, true, false, false, false, false, false, false, false, false] (.seq (.region [⟨(some 17), .bin .lss (.tmp 16) (.const (.p (.int .i64 8))), none⟩])
 (.seq (.cond (.tmp 17) (.skip)
 (.exit 2 [false, false, false, true, false, false, true, true, true, false, false, false, false, false, false, false, false, false, false, false, false, false, false, false, false]))
 (.seq (.block 3 [false, false, false, true, false, false, true, true, true, false, false, false, false, false, false, false, true, false, false, false, false, false, false, false, false] (.region [⟨(some 18), .mv (.tmp 3), none⟩, ⟨(some 19), .call 16 [(.tmp 18)], none⟩, ⟨(some 3), .mv (.tmp 19), none⟩]))
 (.region [⟨(some 20), .bin .add (.tmp 16) (.const (.p (.int .i64 1))), none⟩, ⟨(some 16), .mv (.tmp 20), none⟩]))))))))))
 (.region [⟨(some 21), .bin .add (.tmp 8) (.const (.p (.int .i64 1))), none⟩, ⟨(some 8), .mv (.tmp 21), none⟩])))))))
 (.seq (.region [⟨(some 22), .mv (.tmp 3), none⟩, ⟨(some 23), .un .xor (.tmp 22), none⟩, ⟨(some 24), .cv (.int .i64) (.tmp 23), none⟩, ⟨(some 2), .mv (.tmp 24), none⟩])
 (.ret [false, false, true, false, false, false, false, false, false, false, false, false, false, false, false, false, false, false, false, false, false, false, false, false, false]))))⟩
theorem cf8 : compF Try.prog (fun _ _ => false) Try.f8 = some lf8 := by kernel_rfl
theorem fr8 : FR Try.prog 8 lf8 := compF_sound (by kernel_rfl) Try.func8 (by kernel_rfl) cf8

def lf9 : LFn := ⟨34, [.tmp 2],
 .seq (.region [⟨(some 2), .mv (.const (.p (.int .i64 0))), none⟩])
 (.seq (.region [⟨(some 3), .mv (.const (.p (.int .u32 4294967295))), none⟩])
 (.seq (.seq (.region [⟨(some 4), .mv (.const (.p (.int .i64 0))), none⟩])
 (.block 0 [false, false, false, true, false, false, false, false, false, false, false, false, false, false, false, false, false, false, false, false, false, false, false, false, false, false, false, false, false, false, false, false, false, false] (.loop [true, false, false, true, true, false, false, false, false, false, false, false, false, false, false, false, false, false, false, false, false, false, false, false, false, false, false, false, false, false, false, false, false, false] (.seq (.seq (.region [⟨(some 6), .mv (.tmp 4), none⟩, ⟨(some 7), .mv (.tmp 0), none⟩, ⟨(some 8), .len (.tmp 7), none⟩, ⟨(some 9), .bin .lss (.tmp 6) (.tmp 8), none⟩])
 (.cond (.tmp 9) (.skip)
 (.exit 0 [false, false, false, true, false, false, false, false, false, false, false, false, false, false, false, false, false, false, false, false, false, false, false, false, false, false, false, false, false, false, false, false, false, false])))
 (.seq (.block 1 [true, false, false, true, true, false, false, false, false, false, false, false, false, false, false, false, false, false, false, false, false, false, false, false, false, false, false, false, false, false, false, false, false, false] (.seq (.region [⟨(some 12), .mv (.tmp 3), none⟩, ⟨(some 13), .mv (.tmp 0), none⟩, ⟨(some 14), .mv (.tmp 4), none⟩, ⟨(some 15), .indexAddr 1 (.tmp 13) (.tmp 14), none⟩, ⟨(some 16), .load false 1 (.tmp 15), none⟩, ⟨(some 17), .cv (.int .u32) (.tmp 16), none⟩, ⟨(some 18), .bin .xor (.tmp 12) (.tmp 17), none⟩, ⟨(some 3), .mv (.tmp 18), none⟩])
 (.seq (.region [⟨(some 5), .mv (.const (.p (.int .i64 0))), none⟩])
 (.block 2 [true, false, false, true, true, false, false, false, false, false, false, false, false, false, false, false, false, false, false, false, false, false, false, false, false, false, false, false, false, false, false, false, false, false] (.loop [true, false, false, true, true, true, false, false, false, false, false, false, false, false, false, false, false, false, false, false, false, false, false, false, false, false, false, false, false, false, false, false, false, false] (.seq (.seq (.region [⟨(some 19), .mv (.tmp 5), none⟩, ⟨(some 20), .bin .lss (.tmp 19) (.const (.p (.int .i64 8))), none⟩])
 (.cond (.tmp 20) (.skip)
 (.exit 2 [true, false, false, true, true, false, false, false, false, false, false, false, false, false, false, false, false, false, false, false, false, false, false, false, false, false, false, false, false, false, false, false, false, false])))
 (.seq (.block 3 [true, false, false, true, true, true, false, false, false, false, false, false, false, false, false, false, false, false, false, false, false, false, false, false, false, false, false, false, false, false, false, false, false, false] (.seq (.region [⟨(some 23), .mv (.tmp 3), none⟩, ⟨(some 24), .bin .rem (.tmp 23) (.const (.p (.int .u32 2))), none⟩, ⟨(some 25), .bin .eql (.tmp 24) (.const (.p (.int .u32 1))), none⟩])
 (.cond (.tmp 25) (.region [⟨(some 26), .mv (.tmp 3), none⟩, ⟨(some 27), .bin .quo (.tmp 26) (.const (.p (.int .u32 2))), none⟩, ⟨(some 28), .bin .xor (.tmp 27) (.const (.p (.int .u32 3988292384))), none⟩, ⟨(some 3), .mv (.tmp 28), none⟩])
 (.region [⟨(some 29), .mv (.tmp 3), none⟩, ⟨(some 30), .bin .quo (.tmp 29) (.const (.p (.int .u32 2))), none⟩, ⟨(some 3), .mv (.tmp 30), none⟩]))))
 (.region [⟨(some 21), .mv (.tmp 5), none⟩, ⟨(some 22), .bin .add (.tmp 21) (.const (.p (.int .i64 1))), none⟩, ⟨(some 5), .mv (.tmp 22), none⟩]))))))))
 (.region [⟨(some 10), .mv (.tmp 4), none⟩, ⟨(some 11), .bin .add (.tmp 10) (.const (.p (.int .i64 1))), none⟩, ⟨(some 4), .mv (.tmp 11), none⟩]))))))
 (.seq (.region [⟨(some 31), .mv (.tmp 3), none⟩, ⟨(some 32), .un .xor (.tmp 31), none⟩, ⟨(some 33), .cv (.int .i64) (.tmp 32), none⟩, ⟨(some 2), .mv (.tmp 33), none⟩])
 (.ret [false, false, true, false, false, false, false, false, false, false, false, false, false, false, false, false, false, false, false, false, false, false, false, false, false, false, false, false, false, false, false, false, false, false]))))⟩
theorem cf9 : compF Try.prog (fun _ _ => false) Try.f9 = some lf9 := by kernel_rfl
theorem fr9 : FR Try.prog 9 lf9 := compF_sound (by kernel_rfl) Try.func9 (by kernel_rfl) cf9

def lf10 : LFn := ⟨27, [.tmp 4, .tmp 5],
 .seq (.region [⟨(some 4), .mv (.const (.tight [])), none⟩, ⟨(some 5), .mv (.const (.p (.int .i64 0))), none⟩])
 (.seq (.seq (.region [⟨(some 9), .mv (.tmp 1), none⟩, ⟨(some 10), .len (.tmp 9), none⟩, ⟨(some 11), .bin .gtr (.tmp 10) (.const (.p (.int .i64 65536))), none⟩])
 (.cond (.tmp 11) (.seq (.region [⟨(some 4), .mv (.const (.tight [])), none⟩, ⟨(some 5), .mv (.const (.p (.int .i64 3))), none⟩])
 (.ret [false, false, false, false, true, true, false, false, false, false, false, false, false, false, false, false, false, false, false, false, false, false, false, false, false, false, false]))
 (.skip)))
 (.seq (.region [⟨(some 13), .mv (.tmp 1), none⟩, ⟨(some 14), .len (.tmp 13), none⟩, ⟨(some 15), .call 17 [(.tmp 14)], none⟩, ⟨(some 12), .mv (.tmp 15), none⟩, ⟨(some 16), .extract (.tmp 12) 0, none⟩, ⟨(some 17), .extract (.tmp 12) 1, none⟩, ⟨(some 6), .mv (.tmp 16), none⟩, ⟨(some 7), .mv (.tmp 17), none⟩])
 (.seq (.region [⟨(some 18), .mv (.tmp 6), none⟩, ⟨(some 19), .mv (.tmp 1), none⟩, ⟨(some 20), .append false 1 1 (.tmp 18) (.tmp 19), none⟩, ⟨(some 8), .mv (.tmp 20), none⟩])
 (.seq (.region [⟨(some 21), .mv (.tmp 0), none⟩, ⟨(some 22), .mv (.tmp 8), none⟩, ⟨(some 23), .mv (.tmp 8), none⟩, ⟨(some 24), .call 19 [(.tmp 23)], none⟩, ⟨(some 25), .mkrow false 1 3 [(.tight [])] [(0, (.tmp 21)), (1, (.tmp 22)), (2, (.tmp 24))], none⟩, ⟨(some 26), .call 18 [(.tmp 25)], none⟩, ⟨(some 4), .mv (.tmp 26), none⟩, ⟨(some 5), .mv (.const (.p (.int .i64 0))), none⟩])
 (.ret [false, false, false, false, true, true, false, false, false, false, false, false, false, false, false, false, false, false, false, false, false, false, false, false, false, false, false])))))⟩
theorem cf10 : compF Try.prog (fun _ _ => false) Try.f10 = some lf10 := by kernel_rfl
theorem fr10 : FR Try.prog 10 lf10 := compF_sound (by kernel_rfl) Try.func10 (by kernel_rfl) cf10

def lf11 : LFn := ⟨20, [.tmp 2],
 .seq (.region [⟨(some 2), .mv (.const (.p (.int .i64 0))), none⟩])
 (.seq (.seq (.region [⟨(some 5), .mv (.tmp 0), none⟩, ⟨(some 6), .len (.tmp 5), none⟩, ⟨(some 7), .bin .gtr (.tmp 6) (.const (.p (.int .i64 65536))), none⟩])
 (.cond (.tmp 7) (.seq (.region [⟨(some 2), .mv (.const (.p (.int .i64 0))), none⟩])
 (.ret [false, false, true, false, false, false, false, false, false, false, false, false, false, false, false, false, false, false, false, false]))
 (.skip)))
 (.seq (.region [⟨(some 9), .mv (.tmp 0), none⟩, ⟨(some 10), .len (.tmp 9), none⟩, ⟨(some 11), .call 17 [(.tmp 10)], none⟩, ⟨(some 8), .mv (.tmp 11), none⟩, ⟨(some 12), .extract (.tmp 8) 0, none⟩, ⟨(some 13), .extract (.tmp 8) 1, none⟩, ⟨(some 3), .mv (.tmp 12), none⟩, ⟨(some 4), .mv (.tmp 13), none⟩])
 (.seq (.region [⟨(some 14), .mv (.tmp 3), none⟩, ⟨(some 15), .len (.tmp 14), none⟩, ⟨(some 16), .mv (.tmp 0), none⟩, ⟨(some 17), .len (.tmp 16), none⟩, ⟨(some 18), .bin .add (.tmp 15) (.tmp 17), none⟩, ⟨(some 19), .bin .add (.tmp 18) (.const (.p (.int .i64 4))), none⟩, ⟨(some 2), .mv (.tmp 19), none⟩])
 (.ret [false, false, true, false, false, false, false, false, false, false, false, false, false, false, false, false, false, false, false, false]))))⟩
theorem cf11 : compF Try.prog (fun _ _ => false) Try.f11 = some lf11 := by kernel_rfl
theorem fr11 : FR Try.prog 11 lf11 := compF_sound (by kernel_rfl) Try.func11 (by kernel_rfl) cf11

def lf12 : LFn := ⟨14, [.tmp 2],
 .seq (.region [⟨(some 2), .mv (.const (.tight [])), none⟩])
 (.seq (.region [⟨(some 4), .mv (.tmp 0), none⟩, ⟨(some 5), .len (.tmp 4), none⟩, ⟨(some 6), .call 20 [(.tmp 5)], none⟩, ⟨(some 7), .mv (.tmp 0), none⟩, ⟨(some 8), .append false 1 1 (.tmp 6) (.tmp 7), none⟩, ⟨(some 3), .mv (.tmp 8), none⟩])
 (.seq (.region [⟨(some 9), .mv (.tmp 3), none⟩, ⟨(some 10), .mv (.tmp 3), none⟩, ⟨(some 11), .call 9 [(.tmp 10)], none⟩, ⟨(some 12), .call 21 [(.tmp 11)], none⟩, ⟨(some 13), .append false 1 1 (.tmp 9) (.tmp 12), none⟩, ⟨(some 2), .mv (.tmp 13), none⟩])
 (.ret [false, false, true, false, false, false, false, false, false, false, false, false, false, false])))⟩
theorem cf12 : compF Try.prog (fun _ _ => false) Try.f12 = some lf12 := by kernel_rfl
theorem fr12 : FR Try.prog 12 lf12 := compF_sound (by kernel_rfl) Try.func12 (by kernel_rfl) cf12

def lf13 : LFn := ⟨26, [.tmp 2, .tmp 3],
 .seq (.region [⟨(some 2), .mv (.const (.tight [])), none⟩, ⟨(some 3), .mv (.const (.p (.int .i64 0))), none⟩])
 (.seq (.region [⟨(some 4), .mv (.const (.tight [])), none⟩])
 (.seq (.region [⟨(some 5), .mv (.const (.p (.int .i64 0))), none⟩])
 (.block 0 [false, false, true, true, false, false, false, false, false, false, false, false, false, false, false, false, false, false, false, false, false, false, false, false, false, false] (.loop [true, false, false, false, true, true, false, false, false, false, false, false, false, false, false, false, false, false, false, false, false, false, false, false, false, false] (.block 1 [true, false, false, false, true, true, false, false, false, false, false, false, false, false, false, false, false, false, false, false, false, false, false, false, false, false] (.seq (.region [⟨(some 9), .mv (.tmp 0), none⟩, ⟨(some 10), .mv (.tmp 5), none⟩, ⟨(some 11), .slice 1 (.tmp 9) (some (.tmp 10)) none none, none⟩, ⟨(some 12), .call 22 [(.tmp 11)], none⟩, ⟨(some 8), .mv (.tmp 12), none⟩, ⟨(some 13), .extract (.tmp 8) 0, none⟩, ⟨(some 14), .extract (.tmp 8) 1, none⟩, ⟨(some 6), .mv (.tmp 13), none⟩, ⟨(some 7), .mv (.tmp 14), none⟩])
 (.seq (.seq (.region [⟨(some 15), .mv (.tmp 7), none⟩, ⟨(some 16), .bin .eql (.tmp 15) (.const (.p (.int .i64 0))), none⟩])
 (.cond (.tmp 16) (.seq (.region [⟨(some 17), .mv (.tmp 4), none⟩, ⟨(some 18), .mv (.tmp 5), none⟩, ⟨(some 2), .mv (.tmp 17), none⟩, ⟨(some 3), .mv (.tmp 18), none⟩])
 (.ret [false, false, true, true, false, false, false, false, false, false, false, false, false, false, false, false, false, false, false, false, false, false, false, false, false, false]))
 (.skip)))
 (.region [⟨(some 19), .mv (.tmp 4), none⟩, ⟨(some 20), .mv (.tmp 6), none⟩, ⟨(some 21), .mkrow false 1 1 [(.tight [])] [(0, (.tmp 20))], none⟩, ⟨(some 22), .append false 1 24 (.tmp 19) (.tmp 21), none⟩, ⟨(some 23), .mv (.tmp 5), none⟩, ⟨(some 24), .mv (.tmp 7), none⟩, ⟨(some 25), .bin .add (.tmp 23) (.tmp 24), none⟩, ⟨(some 4), .mv (.tmp 22), none⟩, ⟨(some 5), .mv (.tmp 25), none⟩]))))))))⟩
theorem cf13 : compF Try.prog (fun _ _ => false) Try.f13 = some lf13 := by kernel_rfl
theorem fr13 : FR Try.prog 13 lf13 := compF_sound (by kernel_rfl) Try.func13 (by kernel_rfl) cf13

def lf14 : LFn := ⟨26, [.tmp 2, .tmp 3],
 .seq (.region [⟨(some 2), .mv (.const (.tight [])), none⟩, ⟨(some 3), .mv (.const (.p (.int .i64 0))), none⟩])
 (.seq (.region [⟨(some 4), .mv (.const (.tight [])), none⟩])
 (.seq (.region [⟨(some 5), .mv (.const (.p (.int .i64 0))), none⟩])
 (.block 0 [false, false, true, true, false, false, false, false, false, false, false, false, false, false, false, false, false, false, false, false, false, false, false, false, false, false] (.loop [true, false, false, false, true, true, false, false, false, false, false, false, false, false, false, false, false, false, false, false, false, false, false, false, false, false] (.block 1 [true, false, false, false, true, true, false, false, false, false, false, false, false, false, false, false, false, false, false, false, false, false, false, false, false, false] (.seq (.region [⟨(some 9), .mv (.tmp 0), none⟩, ⟨(some 10), .mv (.tmp 5), none⟩, ⟨(some 11), .slice 1 (.tmp 9) (some (.tmp 10)) none none, none⟩, ⟨(some 12), .call 23 [(.tmp 11)], none⟩, ⟨(some 8), .mv (.tmp 12), none⟩, ⟨(some 13), .extract (.tmp 8) 0, none⟩, ⟨(some 14), .extract (.tmp 8) 1, none⟩, ⟨(some 6), .mv (.tmp 13), none⟩, ⟨(some 7), .mv (.tmp 14), none⟩])
 (.seq (.seq (.region [⟨(some 15), .mv (.tmp 6), none⟩, ⟨(some 16), .bin .eql (.tmp 15) (.const (.p (.int .i64 0))), none⟩])
 (.cond (.tmp 16) (.seq (.region [⟨(some 17), .mv (.tmp 4), none⟩, ⟨(some 18), .mv (.tmp 5), none⟩, ⟨(some 2), .mv (.tmp 17), none⟩, ⟨(some 3), .mv (.tmp 18), none⟩])
 (.ret [false, false, true, true, false, false, false, false, false, false, false, false, false, false, false, false, false, false, false, false, false, false, false, false, false, false]))
 (.skip)))
 (.seq (.region [⟨(some 19), .mv (.tmp 4), none⟩, ⟨(some 20), .mv (.tmp 7), none⟩, ⟨(some 21), .mkrow false 1 1 [(.tight [])] [(0, (.tmp 20))], none⟩, ⟨(some 22), .append false 1 24 (.tmp 19) (.tmp 21), none⟩, ⟨(some 4), .mv (.tmp 22), none⟩])
 (.region [⟨(some 23), .mv (.tmp 5), none⟩, ⟨(some 24), .mv (.tmp 6), none⟩, ⟨(some 25), .bin .add (.tmp 23) (.tmp 24), none⟩, ⟨(some 5), .mv (.tmp 25), none⟩])))))))))⟩
theorem cf14 : compF Try.prog (fun _ _ => false) Try.f14 = some lf14 := by kernel_rfl
theorem fr14 : FR Try.prog 14 lf14 := compF_sound (by kernel_rfl) Try.func14 (by kernel_rfl) cf14

def lf15 : LFn := ⟨28, [.tmp 4],
 .seq (.region [⟨(some 4), .mv (.const (.p (.bool false))), none⟩])
 (.seq (.seq (.region [⟨(some 6), .mv (.tmp 0), none⟩, ⟨(some 7), .len (.tmp 6), none⟩, ⟨(some 8), .mv (.tmp 1), none⟩, ⟨(some 9), .len (.tmp 8), none⟩, ⟨(some 10), .bin .neq (.tmp 7) (.tmp 9), none⟩])
 (.cond (.tmp 10) (.seq (.region [⟨(some 4), .mv (.const (.p (.bool false))), none⟩])
 (.ret [false, false, false, false, true, false, false, false, false, false, false, false, false, false, false, false, false, false, false, false, false, false, false, false, false, false, false, false]))
 (.skip)))
 (.seq (.seq (.region [⟨(some 5), .mv (.const (.p (.int .i64 0))), none⟩])
 (.block 0 [false, false, false, false, false, false, false, false, false, false, false, false, false, false, false, false, false, false, false, false, false, false, false, false, false, false, false, false] (.loop [true, true, false, false, false, true, false, false, false, false, false, false, false, false, false, false, false, false, false, false, false, false, false, false, false, false, false, false] (.seq (.seq (.region [⟨(some 11), .mv (.tmp 5), none⟩, ⟨(some 12), .mv (.tmp 0), none⟩, ⟨(some 13), .len (.tmp 12), none⟩, ⟨(some 14), .bin .lss (.tmp 11) (.tmp 13), none⟩])
 (.cond (.tmp 14) (.skip)
 (.exit 0 [false, false, false, false, false, false, false, false, false, false, false, false, false, false, false, false, false, false, false, false, false, false, false, false, false, false, false, false])))
 (.seq (.block 1 [true, true, false, false, false, true, false, false, false, false, false, false, false, false, false, false, false, false, false, false, false, false, false, false, false, false, false, false] (.seq (.drawn [⟨.h, 0, [], ⟨(some 17), .mv (.tmp 0), none⟩⟩, ⟨.h, 1, [], ⟨(some 18), .mv (.tmp 5), none⟩⟩, ⟨.h, 2, [], ⟨(some 19), .indexAddr 1 (.tmp 17) (.tmp 18), none⟩⟩, ⟨.h, 3, [], ⟨(some 20), .load false 1 (.tmp 19), none⟩⟩, ⟨.h, 4, [], ⟨(some 21), .cv .b2s (.tmp 20), none⟩⟩, ⟨.h, 5, [], ⟨(some 22), .mv (.tmp 1), none⟩⟩, ⟨.h, 6, [], ⟨(some 23), .mv (.tmp 5), none⟩⟩, ⟨.h, 7, [], ⟨(some 24), .indexAddr 1 (.tmp 22) (.tmp 23), none⟩⟩, ⟨.h, 8, [], ⟨(some 25), .load false 1 (.tmp 24), none⟩⟩, ⟨.h, 9, [], ⟨(some 26), .cv .b2s (.tmp 25), none⟩⟩, ⟨.h, 10, [], ⟨(some 27), .bin .neq (.tmp 21) (.tmp 26), none⟩⟩])
 (.cond (.tmp 27) (.seq (.region [⟨(some 4), .mv (.const (.p (.bool false))), none⟩])
 (.ret [false, false, false, false, true, false, false, false, false, false, false, false, false, false, false, false, false, false, false, false, false, false, false, false, false, false, false, false]))
 (.skip))))
 (.region [⟨(some 15), .mv (.tmp 5), none⟩, ⟨(some 16), .bin .add (.tmp 15) (.const (.p (.int .i64 1))), none⟩, ⟨(some 5), .mv (.tmp 16), none⟩]))))))
 (.seq (.region [⟨(some 4), .mv (.const (.p (.bool true))), none⟩])
 (.ret [false, false, false, false, true, false, false, false, false, false, false, false, false, false, false, false, false, false, false, false, false, false, false, false, false, false, false, false]))))⟩
theorem cf15 : compF Try.prog (fun _ _ => false) Try.f15 = some lf15 := by kernel_rfl
theorem fr15 : FR Try.prog 15 lf15 := compF_sound (by kernel_rfl) Try.func15 (by kernel_rfl) cf15

def lf16 : LFn := ⟨11, [.tmp 2],
 .seq (.region [⟨(some 2), .mv (.const (.p (.int .u32 0))), none⟩])
 (.seq (.seq (.region [⟨(some 3), .mv (.tmp 0), none⟩, ⟨(some 4), .bin .and (.tmp 3) (.const (.p (.int .u32 1))), none⟩, ⟨(some 5), .bin .eql (.tmp 4) (.const (.p (.int .u32 1))), none⟩])
 (.cond (.tmp 5) (.seq (.region [⟨(some 6), .mv (.tmp 0), none⟩, ⟨(some 7), .bin .shr (.tmp 6) (.const (.p (.int .u64 1))), none⟩, ⟨(some 8), .bin .xor (.tmp 7) (.const (.p (.int .u32 3988292384))), none⟩, ⟨(some 2), .mv (.tmp 8), none⟩])
 (.ret [false, false, true, false, false, false, false, false, false, false, false]))
 (.skip)))
 (.seq (.region [⟨(some 9), .mv (.tmp 0), none⟩, ⟨(some 10), .bin .shr (.tmp 9) (.const (.p (.int .u64 1))), none⟩, ⟨(some 2), .mv (.tmp 10), none⟩])
 (.ret [false, false, true, false, false, false, false, false, false, false, false])))⟩
theorem cf16 : compF Try.prog (fun _ _ => false) Try.f16 = some lf16 := by kernel_rfl
theorem fr16 : FR Try.prog 16 lf16 := compF_sound (by kernel_rfl) Try.func16 (by kernel_rfl) cf16

def lf17 : LFn := ⟨13, [.tmp 2, .tmp 3],
 .seq (.region [⟨(some 2), .mv (.const (.tight [])), none⟩, ⟨(some 3), .mv (.const (.p (.int .i64 0))), none⟩])
 (.seq (.seq (.region [⟨(some 4), .mv (.tmp 0), none⟩, ⟨(some 5), .bin .lss (.tmp 4) (.const (.p (.int .i64 0))), none⟩, ⟨(some 6), .mv (.tmp 5), none⟩, ⟨(some 7), .mv (.tmp 0), (some (6, false))⟩, ⟨(some 8), .bin .gtr (.tmp 7) (.const (.p (.int .i64 4611686018427387904))), (some (6, false))⟩, ⟨(some 9), .pick (.tmp 6) (.const (.p (.bool true))) (.tmp 8), none⟩])
 (.cond (.tmp 9) (.seq (.region [⟨(some 2), .mv (.const (.tight [])), none⟩, ⟨(some 3), .mv (.const (.p (.int .i64 1))), none⟩])
 (.ret [false, false, true, true, false, false, false, false, false, false, false, false, false]))
 (.skip)))
 (.seq (.region [⟨(some 10), .mv (.tmp 0), none⟩, ⟨(some 11), .cv (.int .u64) (.tmp 10), none⟩, ⟨(some 12), .call 24 [(.const (.tight [])), (.tmp 11)], none⟩, ⟨(some 2), .mv (.tmp 12), none⟩, ⟨(some 3), .mv (.const (.p (.int .i64 0))), none⟩])
 (.ret [false, false, true, true, false, false, false, false, false, false, false, false, false])))⟩
theorem cf17 : compF Try.prog (fun _ _ => false) Try.f17 = some lf17 := by kernel_rfl
theorem fr17 : FR Try.prog 17 lf17 := compF_sound (by kernel_rfl) Try.func17 (by kernel_rfl) cf17

def lf18 : LFn := ⟨36, [.tmp 2],
 .seq (.region [⟨(some 2), .mv (.const (.tight [])), none⟩])
 (.seq (.region [⟨(some 3), .mv (.const (.p (.int .i64 0))), none⟩])
 (.seq (.seq (.region [⟨(some 9), .mv (.tmp 0), none⟩, ⟨(some 10), .len (.tmp 9), none⟩, ⟨(some 11), .mv (.const (.p (.int .i64 0))), none⟩])
 (.block 0 [true, false, false, true, false, false, false, false, false, false, false, false, false, false, false, false, false, false, false, false, false, false, false, false, false, false, false, false, false, false, false, false, false, false, false, false] (.loop [true, false, false, true, false, false, false, false, false, true, true, true, false, false, false, false, false, false, false, false, false, false, false, false, false, false, false, false, false, false, false, false, false, false, false, false] (.seq (.region [⟨(some 12), .bin .lss (.tmp 11) (.tmp 10), none⟩])
 (.seq (.cond (.tmp 12) (.skip)
 (.exit 0 [true, false, false, true, false, false, false, false, false, false, false, false, false, false, false, false, false, false, false, false, false, false, false, false, false, false, false, false, false, false, false, false, false, false, false, false]))
 (.seq (.block 1 [true, false, false, true, false, false, false, false, false, true, true, true, false, false, false, false, false, false, false, false, false, false, false, false, false, false, false, false, false, false, false, false, false, false, false, false] (.seq (.region [⟨(some 13), .indexAddr 1 (.tmp 9) (.tmp 11), none⟩, ⟨(some 14), .load false 1 (.tmp 13), none⟩, ⟨(some 5), .mv (.tmp 14), none⟩])
 (.seq (.region [⟨(some 15), .mv (.tmp 3), none⟩, ⟨(some 16), .mv (.tmp 5), none⟩, ⟨(some 17), .len (.tmp 16), none⟩, ⟨(some 18), .bin .add (.tmp 15) (.tmp 17), none⟩, ⟨(some 3), .mv (.tmp 18), none⟩])
 (.seq (.region [⟨(some 19), .mv (.tmp 3), none⟩, ⟨(some 20), .bin .lss (.tmp 19) (.const (.p (.int .i64 0))), none⟩])
 (.cond (.tmp 20) (.region [⟨(some 21), .iface 9 (.const (.p (.str [108, 101, 110, 32, 111, 117, 116, 32, 111, 102, 32, 114, 97, 110, 103, 101]))), none⟩, ⟨none, .fail, none⟩])
 (.skip))))))
 (.region [⟨(some 22), .bin .add (.tmp 11) (.const (.p (.int .i64 1))), none⟩, ⟨(some 11), .mv (.tmp 22), none⟩])))))))
 (.seq (.region [⟨(some 23), .mv (.tmp 3), none⟩, ⟨(some 24), .call 25 [(.const (.tight [])), (.tmp 23)], none⟩, ⟨(some 6), .mv (.tmp 24), none⟩])
 (.seq (.seq (.region [⟨(some 25), .mv (.tmp 0), none⟩, ⟨(some 26), .len (.tmp 25), none⟩, ⟨(some 27), .mv (.const (.p (.int .i64 0))), none⟩])
 (.block 2 [false, false, false, false, false, false, true, false, false, false, false, false, false, false, false, false, false, false, false, false, false, false, false, false, false, false, false, false, false, false, false, false, false, false, false, false] (.loop [false, false, false, false, false, false, true, false, false, false, false, false, false, false, false, false, false, false, false, false, false, false, false, false, false, true, true, true, false, false, false, false, false, false, false, false] (.seq (.region [⟨(some 28), .bin .lss (.tmp 27) (.tmp 26), none⟩])
 (.seq (.cond (.tmp 28) (.skip)
 (.exit 2 [false, false, false, false, false, false, true, false, false, false, false, false, false, false, false, false, false, false, false, false, false, false, false, false, false, false, false, false, false, false, false, false, false, false, false, false]))
 (.seq (.block 3 [false, false, false, false, false, false, true, false, false, false, false, false, false, false, false, false, false, false, false, false, false, false, false, false, false, true, true, true, false, false, false, false, false, false, false, false] (.seq (.region [⟨(some 29), .indexAddr 1 (.tmp 25) (.tmp 27), none⟩, ⟨(some 30), .load false 1 (.tmp 29), none⟩, ⟨(some 8), .mv (.tmp 30), none⟩])
 (.region [⟨(some 31), .mv (.tmp 6), none⟩, ⟨(some 32), .mv (.tmp 8), none⟩, ⟨(some 33), .append false 1 1 (.tmp 31) (.tmp 32), none⟩, ⟨(some 6), .mv (.tmp 33), none⟩])))
 (.region [⟨(some 34), .bin .add (.tmp 27) (.const (.p (.int .i64 1))), none⟩, ⟨(some 27), .mv (.tmp 34), none⟩])))))))
 (.seq (.region [⟨(some 35), .mv (.tmp 6), none⟩, ⟨(some 2), .mv (.tmp 35), none⟩])
 (.ret [false, false, true, false, false, false, false, false, false, false, false, false, false, false, false, false, false, false, false, false, false, false, false, false, false, false, false, false, false, false, false, false, false, false, false, false]))))))⟩
theorem cf18 : compF Try.prog (fun _ _ => false) Try.f18 = some lf18 := by kernel_rfl
theorem fr18 : FR Try.prog 18 lf18 := compF_sound (by kernel_rfl) Try.func18 (by kernel_rfl) cf18

def lf19 : LFn := ⟨18, [.tmp 2],
 .seq (.region [⟨(some 2), .mv (.const (.tight [])), none⟩])
 (.seq (.region [⟨(some 4), .mv (.tmp 0), none⟩, ⟨(some 5), .call 8 [(.tmp 4)], none⟩, ⟨(some 3), .mv (.tmp 5), none⟩])
 (.seq (.region [⟨(some 6), .mv (.tmp 3), none⟩, ⟨(some 7), .cv (.int .u8) (.tmp 6), none⟩, ⟨(some 8), .mv (.tmp 3), none⟩, ⟨(some 9), .bin .shr (.tmp 8) (.const (.p (.int .u64 8))), none⟩, ⟨(some 10), .cv (.int .u8) (.tmp 9), none⟩, ⟨(some 11), .mv (.tmp 3), none⟩, ⟨(some 12), .bin .shr (.tmp 11) (.const (.p (.int .u64 16))), none⟩, ⟨(some 13), .cv (.int .u8) (.tmp 12), none⟩, ⟨(some 14), .mv (.tmp 3), none⟩, ⟨(some 15), .bin .shr (.tmp 14) (.const (.p (.int .u64 24))), none⟩, ⟨(some 16), .cv (.int .u8) (.tmp 15), none⟩, ⟨(some 17), .mkrow false 1 4 [(.p (.int .u8 0))] [(0, (.tmp 7)), (1, (.tmp 10)), (2, (.tmp 13)), (3, (.tmp 16))], none⟩, ⟨(some 2), .mv (.tmp 17), none⟩])
 (.ret [false, false, true, false, false, false, false, false, false, false, false, false, false, false, false, false, false, false])))⟩
theorem cf19 : compF Try.prog (fun _ _ => false) Try.f19 = some lf19 := by kernel_rfl
theorem fr19 : FR Try.prog 19 lf19 := compF_sound (by kernel_rfl) Try.func19 (by kernel_rfl) cf19

def lf20 : LFn := ⟨6, [.tmp 2],
 .seq (.region [⟨(some 2), .mv (.const (.tight [])), none⟩])
 (.seq (.region [⟨(some 3), .mv (.tmp 0), none⟩, ⟨(some 4), .cv (.int .u64) (.tmp 3), none⟩, ⟨(some 5), .call 26 [(.tmp 4)], none⟩, ⟨(some 2), .mv (.tmp 5), none⟩])
 (.ret [false, false, true, false, false, false]))⟩
theorem cf20 : compF Try.prog (fun _ _ => false) Try.f20 = some lf20 := by kernel_rfl
theorem fr20 : FR Try.prog 20 lf20 := compF_sound (by kernel_rfl) Try.func20 (by kernel_rfl) cf20

def lf21 : LFn := ⟨15, [.tmp 2],
 .seq (.region [⟨(some 2), .mv (.const (.tight [])), none⟩])
 (.seq (.region [⟨(some 3), .mv (.tmp 0), none⟩, ⟨(some 4), .cv (.int .u8) (.tmp 3), none⟩, ⟨(some 5), .mv (.tmp 0), none⟩, ⟨(some 6), .bin .shr (.tmp 5) (.const (.p (.int .u64 8))), none⟩, ⟨(some 7), .cv (.int .u8) (.tmp 6), none⟩, ⟨(some 8), .mv (.tmp 0), none⟩, ⟨(some 9), .bin .shr (.tmp 8) (.const (.p (.int .u64 16))), none⟩, ⟨(some 10), .cv (.int .u8) (.tmp 9), none⟩, ⟨(some 11), .mv (.tmp 0), none⟩, ⟨(some 12), .bin .shr (.tmp 11) (.const (.p (.int .u64 24))), none⟩, ⟨(some 13), .cv (.int .u8) (.tmp 12), none⟩, ⟨(some 14), .mkrow false 1 4 [(.p (.int .u8 0))] [(0, (.tmp 4)), (1, (.tmp 7)), (2, (.tmp 10)), (3, (.tmp 13))], none⟩, ⟨(some 2), .mv (.tmp 14), none⟩])
 (.ret [false, false, true, false, false, false, false, false, false, false, false, false, false, false, false]))⟩
theorem cf21 : compF Try.prog (fun _ _ => false) Try.f21 = some lf21 := by kernel_rfl
theorem fr21 : FR Try.prog 21 lf21 := compF_sound (by kernel_rfl) Try.func21 (by kernel_rfl) cf21

def lf22 : LFn := ⟨47, [.tmp 2, .tmp 3],
 .seq (.region [⟨(some 2), .mv (.const (.tight [])), none⟩, ⟨(some 3), .mv (.const (.p (.int .i64 0))), none⟩])
 (.seq (.region [⟨(some 8), .mv (.tmp 0), none⟩, ⟨(some 9), .call 27 [(.tmp 8)], none⟩, ⟨(some 4), .mv (.tmp 9), none⟩])
 (.seq (.region [⟨(some 10), .mv (.tmp 4), none⟩, ⟨(some 11), .call 28 [(.tmp 10), (.const (.p (.int .i64 65536)))], none⟩, ⟨(some 5), .mv (.tmp 11), none⟩])
 (.seq (.region [⟨(some 12), .mv (.tmp 0), none⟩, ⟨(some 13), .len (.tmp 12), none⟩, ⟨(some 14), .mv (.tmp 4), none⟩, ⟨(some 15), .call 29 [(.tmp 14)], none⟩, ⟨(some 16), .bin .sub (.tmp 13) (.tmp 15), none⟩, ⟨(some 6), .mv (.tmp 16), none⟩])
 (.seq (.seq (.region [⟨(some 17), .mv (.tmp 4), none⟩, ⟨(some 18), .call 30 [(.tmp 17)], none⟩, ⟨(some 19), .mv (.tmp 18), none⟩, ⟨(some 20), .mv (.tmp 5), (some (19, false))⟩, ⟨(some 21), .mv (.tmp 4), (some (19, false))⟩, ⟨(some 22), .call 29 [(.tmp 21)], (some (19, false))⟩, ⟨(some 23), .bin .sub (.tmp 22) (.const (.p (.int .i64 4))), (some (19, false))⟩, ⟨(some 24), .bin .gtr (.tmp 20) (.tmp 23), (some (19, false))⟩, ⟨(some 25), .pick (.tmp 19) (.const (.p (.bool true))) (.tmp 24), none⟩])
 (.cond (.tmp 25) (.seq (.region [⟨(some 2), .mv (.const (.tight [])), none⟩, ⟨(some 3), .mv (.const (.p (.int .i64 0))), none⟩])
 (.ret [false, false, true, true, false, false, false, false, false, false, false, false, false, false, false, false, false, false, false, false, false, false, false, false, false, false, false, false, false, false, false, false, false, false, false, false, false, false, false, false, false, false, false, false, false, false, false]))
 (.skip)))
 (.seq (.region [⟨(some 26), .mv (.tmp 6), none⟩, ⟨(some 27), .mv (.tmp 5), none⟩, ⟨(some 28), .bin .add (.tmp 26) (.tmp 27), none⟩, ⟨(some 7), .mv (.tmp 28), none⟩])
 (.seq (.seq (.drawn [⟨.h, 0, [], ⟨(some 29), .mv (.tmp 0), none⟩⟩, ⟨.h, 1, [], ⟨(some 30), .mv (.tmp 7), none⟩⟩, ⟨.h, 2, [], ⟨(some 31), .slice 1 (.tmp 29) none (some (.tmp 30)) none, none⟩⟩, ⟨.h, 4, [], ⟨(some 33), .mv (.tmp 0), none⟩⟩, ⟨.h, 5, [], ⟨(some 34), .mv (.tmp 7), none⟩⟩, ⟨.h, 6, [], ⟨(some 35), .mv (.tmp 7), none⟩⟩, ⟨.h, 7, [], ⟨(some 36), .bin .add (.tmp 35) (.const (.p (.int .i64 4))), none⟩⟩, ⟨.h, 8, [], ⟨(some 37), .slice 1 (.tmp 33) (some (.tmp 34)) (some (.tmp 36)) none, none⟩⟩, ⟨.c, 3, [0, 1, 2], ⟨(some 32), .call 19 [(.tmp 31)], none⟩⟩, ⟨.c, 9, [0, 1, 2, 4, 5, 6, 7, 8], ⟨(some 38), .call 31 [(.tmp 32), (.tmp 37)], none⟩⟩, ⟨.h, 10, [], ⟨(some 39), .un .not (.tmp 38), none⟩⟩])
 (.cond (.tmp 39) (.seq (.region [⟨(some 2), .mv (.const (.tight [])), none⟩, ⟨(some 3), .mv (.const (.p (.int .i64 0))), none⟩])
 (.ret [false, false, true, true, false, false, false, false, false, false, false, false, false, false, false, false, false, false, false, false, false, false, false, false, false, false, false, false, false, false, false, false, false, false, false, false, false, false, false, false, false, false, false, false, false, false, false]))
 (.skip)))
 (.seq (.region [⟨(some 40), .mv (.tmp 0), none⟩, ⟨(some 41), .mv (.tmp 6), none⟩, ⟨(some 42), .mv (.tmp 7), none⟩, ⟨(some 43), .slice 1 (.tmp 40) (some (.tmp 41)) (some (.tmp 42)) none, none⟩, ⟨(some 44), .call 32 [(.tmp 43)], none⟩, ⟨(some 45), .mv (.tmp 7), none⟩, ⟨(some 46), .bin .add (.tmp 45) (.const (.p (.int .i64 4))), none⟩, ⟨(some 2), .mv (.tmp 44), none⟩, ⟨(some 3), .mv (.tmp 46), none⟩])
 (.ret [false, false, true, true, false, false, false, false, false, false, false, false, false, false, false, false, false, false, false, false, false, false, false, false, false, false, false, false, false, false, false, false, false, false, false, false, false, false, false, false, false, false, false, false, false, false, false]))))))))⟩
theorem cf22 : compF Try.prog (fun _ _ => false) Try.f22 = some lf22 := by kernel_rfl
theorem fr22 : FR Try.prog 22 lf22 := compF_sound (by kernel_rfl) Try.func22 (by kernel_rfl) cf22

def lf23 : LFn := ⟨57, [.tmp 2, .tmp 3],
 .seq (.region [⟨(some 2), .mv (.const (.p (.int .i64 0))), none⟩, ⟨(some 3), .mv (.const (.tight [])), none⟩])
 (.seq (.region [⟨(some 8), .mv (.tmp 0), none⟩, ⟨(some 9), .build [(.tight []), (.p (.bool false))] [(0, 1, (.tmp 8))], none⟩, ⟨(some 10), .box (.tmp 9), none⟩, ⟨(some 4), .mv (.tmp 10), none⟩])
 (.seq (.region [⟨(some 11), .mv (.tmp 4), none⟩, ⟨(some 12), .call 33 [(.tmp 11), (.const (.p (.int .i64 65536)))], none⟩, ⟨(some 5), .mv (.tmp 12), none⟩])
 (.seq (.seq (.region [⟨(some 13), .mv (.tmp 4), none⟩, ⟨(some 14), .nilChk (.tmp 13), none⟩, ⟨(some 15), .fieldAddr 1 (.tmp 14), none⟩, ⟨(some 16), .load false 1 (.tmp 15), none⟩])
 (.cond (.tmp 16) (.seq (.region [⟨(some 2), .mv (.const (.p (.int .i64 0))), none⟩, ⟨(some 3), .mv (.const (.tight [])), none⟩])
 (.ret [false, false, true, true, false, false, false, false, false, false, false, false, false, false, false, false, false, false, false, false, false, false, false, false, false, false, false, false, false, false, false, false, false, false, false, false, false, false, false, false, false, false, false, false, false, false, false, false, false, false, false, false, false, false, false, false, false]))
 (.skip)))
 (.seq (.region [⟨(some 17), .mv (.tmp 0), none⟩, ⟨(some 18), .len (.tmp 17), none⟩, ⟨(some 19), .mv (.tmp 4), none⟩, ⟨(some 20), .nilChk (.tmp 19), none⟩, ⟨(some 21), .fieldAddr 0 (.tmp 20), none⟩, ⟨(some 22), .load false 1 (.tmp 21), none⟩, ⟨(some 23), .len (.tmp 22), none⟩, ⟨(some 24), .bin .sub (.tmp 18) (.tmp 23), none⟩, ⟨(some 6), .mv (.tmp 24), none⟩])
 (.seq (.seq (.region [⟨(some 25), .mv (.tmp 5), none⟩, ⟨(some 26), .mv (.tmp 4), none⟩, ⟨(some 27), .nilChk (.tmp 26), none⟩, ⟨(some 28), .fieldAddr 0 (.tmp 27), none⟩, ⟨(some 29), .load false 1 (.tmp 28), none⟩, ⟨(some 30), .len (.tmp 29), none⟩, ⟨(some 31), .bin .sub (.tmp 30) (.const (.p (.int .i64 4))), none⟩, ⟨(some 32), .bin .gtr (.tmp 25) (.tmp 31), none⟩])
 (.cond (.tmp 32) (.seq (.region [⟨(some 2), .mv (.const (.p (.int .i64 0))), none⟩, ⟨(some 3), .mv (.const (.tight [])), none⟩])
 (.ret [false, false, true, true, false, false, false, false, false, false, false, false, false, false, false, false, false, false, false, false, false, false, false, false, false, false, false, false, false, false, false, false, false, false, false, false, false, false, false, false, false, false, false, false, false, false, false, false, false, false, false, false, false, false, false, false, false]))
 (.skip)))
 (.seq (.region [⟨(some 33), .mv (.tmp 6), none⟩, ⟨(some 34), .mv (.tmp 5), none⟩, ⟨(some 35), .bin .add (.tmp 33) (.tmp 34), none⟩, ⟨(some 7), .mv (.tmp 35), none⟩])
 (.seq (.seq (.drawn [⟨.h, 0, [], ⟨(some 36), .mv (.tmp 0), none⟩⟩, ⟨.h, 1, [], ⟨(some 37), .mv (.tmp 7), none⟩⟩, ⟨.h, 2, [], ⟨(some 38), .slice 1 (.tmp 36) none (some (.tmp 37)) none, none⟩⟩, ⟨.h, 6, [], ⟨(some 42), .mv (.tmp 0), none⟩⟩, ⟨.h, 7, [], ⟨(some 43), .mv (.tmp 7), none⟩⟩, ⟨.h, 8, [], ⟨(some 44), .mv (.tmp 7), none⟩⟩, ⟨.h, 9, [], ⟨(some 45), .bin .add (.tmp 44) (.const (.p (.int .i64 4))), none⟩⟩, ⟨.h, 10, [], ⟨(some 46), .slice 1 (.tmp 42) (some (.tmp 43)) (some (.tmp 45)) none, none⟩⟩, ⟨.h, 11, [], ⟨(some 47), .cv .b2s (.tmp 46), none⟩⟩, ⟨.c, 3, [0, 1, 2], ⟨(some 39), .call 9 [(.tmp 38)], none⟩⟩, ⟨.c, 4, [0, 1, 2], ⟨(some 40), .call 21 [(.tmp 39)], none⟩⟩, ⟨.h, 5, [], ⟨(some 41), .cv .b2s (.tmp 40), none⟩⟩, ⟨.h, 12, [], ⟨(some 48), .bin .neq (.tmp 41) (.tmp 47), none⟩⟩])
 (.cond (.tmp 48) (.seq (.region [⟨(some 2), .mv (.const (.p (.int .i64 0))), none⟩, ⟨(some 3), .mv (.const (.tight [])), none⟩])
 (.ret [false, false, true, true, false, false, false, false, false, false, false, false, false, false, false, false, false, false, false, false, false, false, false, false, false, false, false, false, false, false, false, false, false, false, false, false, false, false, false, false, false, false, false, false, false, false, false, false, false, false, false, false, false, false, false, false, false]))
 (.skip)))
 (.seq (.region [⟨(some 49), .mv (.tmp 7), none⟩, ⟨(some 50), .bin .add (.tmp 49) (.const (.p (.int .i64 4))), none⟩, ⟨(some 51), .mkrow false 1 0 [(.p (.int .u8 0))] [], none⟩, ⟨(some 52), .mv (.tmp 0), none⟩, ⟨(some 53), .mv (.tmp 6), none⟩, ⟨(some 54), .mv (.tmp 7), none⟩, ⟨(some 55), .slice 1 (.tmp 52) (some (.tmp 53)) (some (.tmp 54)) none, none⟩, ⟨(some 56), .append false 1 1 (.tmp 51) (.tmp 55), none⟩, ⟨(some 2), .mv (.tmp 50), none⟩, ⟨(some 3), .mv (.tmp 56), none⟩])
 (.ret [false, false, true, true, false, false, false, false, false, false, false, false, false, false, false, false, false, false, false, false, false, false, false, false, false, false, false, false, false, false, false, false, false, false, false, false, false, false, false, false, false, false, false, false, false, false, false, false, false, false, false, false, false, false, false, false, false])))))))))⟩
theorem cf23 : compF Try.prog (fun _ _ => false) Try.f23 = some lf23 := by kernel_rfl
theorem fr23 : FR Try.prog 23 lf23 := compF_sound (by kernel_rfl) Try.func23 (by kernel_rfl) cf23

def lf24 : LFn := ⟨20, [.tmp 4],
 .seq (.region [⟨(some 4), .mv (.const (.tight [])), none⟩])
 (.seq (.block 0 [true, true, false, false, false, false, false, false, false, false, false, false, false, false, false, false, false, false, false, false] (.loop [true, true, false, false, false, false, false, false, false, false, false, false, false, false, false, false, false, false, false, false] (.seq (.seq (.region [⟨(some 5), .mv (.tmp 1), none⟩, ⟨(some 6), .bin .geq (.tmp 5) (.const (.p (.int .u64 128))), none⟩])
 (.cond (.tmp 6) (.skip)
 (.exit 0 [true, true, false, false, false, false, false, false, false, false, false, false, false, false, false, false, false, false, false, false])))
 (.seq (.block 1 [true, true, false, false, false, false, false, false, false, false, false, false, false, false, false, false, false, false, false, false] (.region [⟨(some 9), .mv (.tmp 0), none⟩, ⟨(some 10), .mv (.tmp 1), none⟩, ⟨(some 11), .cv (.int .u8) (.tmp 10), none⟩, ⟨(some 12), .bin .or (.tmp 11) (.const (.p (.int .u8 128))), none⟩, ⟨(some 13), .mkrow false 1 1 [(.p (.int .u8 0))] [(0, (.tmp 12))], none⟩, ⟨(some 14), .append false 1 1 (.tmp 9) (.tmp 13), none⟩, ⟨(some 0), .mv (.tmp 14), none⟩]))
 (.region [⟨(some 7), .mv (.tmp 1), none⟩, ⟨(some 8), .bin .shr (.tmp 7) (.const (.p (.int .u64 7))), none⟩, ⟨(some 1), .mv (.tmp 8), none⟩])))))
 (.seq (.region [⟨(some 15), .mv (.tmp 0), none⟩, ⟨(some 16), .mv (.tmp 1), none⟩, ⟨(some 17), .cv (.int .u8) (.tmp 16), none⟩, ⟨(some 18), .mkrow false 1 1 [(.p (.int .u8 0))] [(0, (.tmp 17))], none⟩, ⟨(some 19), .append false 1 1 (.tmp 15) (.tmp 18), none⟩, ⟨(some 4), .mv (.tmp 19), none⟩])
 (.ret [false, false, false, false, true, false, false, false, false, false, false, false, false, false, false, false, false, false, false, false])))⟩
theorem cf24 : compF Try.prog (fun _ _ => false) Try.f24 = some lf24 := by kernel_rfl
theorem fr24 : FR Try.prog 24 lf24 := compF_sound (by kernel_rfl) Try.func24 (by kernel_rfl) cf24

def lf25 : LFn := ⟨27, [.tmp 4],
 .seq (.region [⟨(some 4), .mv (.const (.tight [])), none⟩])
 (.seq (.seq (.region [⟨(some 5), .mv (.tmp 1), none⟩, ⟨(some 6), .bin .lss (.tmp 5) (.const (.p (.int .i64 0))), none⟩])
 (.cond (.tmp 6) (.region [⟨(some 7), .iface 9 (.const (.p (.str [99, 97, 110, 110, 111, 116, 32, 98, 101, 32, 110, 101, 103, 97, 116, 105, 118, 101]))), none⟩, ⟨none, .fail, none⟩])
 (.skip)))
 (.seq (.seq (.region [⟨(some 8), .mv (.tmp 1), none⟩, ⟨(some 9), .mv (.tmp 0), none⟩, ⟨(some 10), .cap (.tmp 9), none⟩, ⟨(some 11), .mv (.tmp 0), none⟩, ⟨(some 12), .len (.tmp 11), none⟩, ⟨(some 13), .bin .sub (.tmp 10) (.tmp 12), none⟩, ⟨(some 14), .bin .sub (.tmp 8) (.tmp 13), none⟩, ⟨(some 1), .mv (.tmp 14), none⟩])
 (.seq (.region [⟨(some 15), .mv (.tmp 1), none⟩, ⟨(some 16), .bin .gtr (.tmp 15) (.const (.p (.int .i64 0))), none⟩])
 (.cond (.tmp 16) (.region [⟨(some 17), .mv (.tmp 0), none⟩, ⟨(some 18), .mv (.tmp 0), none⟩, ⟨(some 19), .cap (.tmp 18), none⟩, ⟨(some 20), .slice 1 (.tmp 17) none (some (.tmp 19)) none, none⟩, ⟨(some 21), .mv (.tmp 1), none⟩, ⟨(some 22), .grow 1 1 (.tmp 20) (.tmp 21), none⟩, ⟨(some 23), .mv (.tmp 0), none⟩, ⟨(some 24), .len (.tmp 23), none⟩, ⟨(some 25), .slice 1 (.tmp 22) none (some (.tmp 24)) none, none⟩, ⟨(some 0), .mv (.tmp 25), none⟩])
 (.skip))))
 (.seq (.region [⟨(some 26), .mv (.tmp 0), none⟩, ⟨(some 4), .mv (.tmp 26), none⟩])
 (.ret [false, false, false, false, true, false, false, false, false, false, false, false, false, false, false, false, false, false, false, false, false, false, false, false, false, false, false]))))⟩
theorem cf25 : compF Try.prog (fun _ _ => false) Try.f25 = some lf25 := by kernel_rfl
theorem fr25 : FR Try.prog 25 lf25 := compF_sound (by kernel_rfl) Try.func25 (by kernel_rfl) cf25

def lf26 : LFn := ⟨20, [.tmp 2],
 .seq (.region [⟨(some 2), .mv (.const (.tight [])), none⟩])
 (.seq (.region [⟨(some 3), .mv (.const (.tight [])), none⟩])
 (.seq (.block 0 [true, false, false, true, false, false, false, false, false, false, false, false, false, false, false, false, false, false, false, false] (.loop [true, false, false, true, false, false, false, false, false, false, false, false, false, false, false, false, false, false, false, false] (.seq (.seq (.region [⟨(some 4), .mv (.tmp 0), none⟩, ⟨(some 5), .bin .geq (.tmp 4) (.const (.p (.int .u64 128))), none⟩])
 (.cond (.tmp 5) (.skip)
 (.exit 0 [true, false, false, true, false, false, false, false, false, false, false, false, false, false, false, false, false, false, false, false])))
 (.block 1 [true, false, false, true, false, false, false, false, false, false, false, false, false, false, false, false, false, false, false, false] (.seq (.region [⟨(some 6), .mv (.tmp 3), none⟩, ⟨(some 7), .mv (.tmp 0), none⟩, ⟨(some 8), .bin .rem (.tmp 7) (.const (.p (.int .u64 128))), none⟩, ⟨(some 9), .cv (.int .u8) (.tmp 8), none⟩, ⟨(some 10), .bin .add (.tmp 9) (.const (.p (.int .u8 128))), none⟩, ⟨(some 11), .mkrow false 1 1 [(.p (.int .u8 0))] [(0, (.tmp 10))], none⟩, ⟨(some 12), .append false 1 1 (.tmp 6) (.tmp 11), none⟩, ⟨(some 3), .mv (.tmp 12), none⟩])
 (.region [⟨(some 13), .mv (.tmp 0), none⟩, ⟨(some 14), .bin .quo (.tmp 13) (.const (.p (.int .u64 128))), none⟩, ⟨(some 0), .mv (.tmp 14), none⟩]))))))
 (.seq (.region [⟨(some 15), .mv (.tmp 3), none⟩, ⟨(some 16), .mv (.tmp 0), none⟩, ⟨(some 17), .cv (.int .u8) (.tmp 16), none⟩, ⟨(some 18), .mkrow false 1 1 [(.p (.int .u8 0))] [(0, (.tmp 17))], none⟩, ⟨(some 19), .append false 1 1 (.tmp 15) (.tmp 18), none⟩, ⟨(some 2), .mv (.tmp 19), none⟩])
 (.ret [false, false, true, false, false, false, false, false, false, false, false, false, false, false, false, false, false, false, false, false]))))⟩
theorem cf26 : compF Try.prog (fun _ _ => false) Try.f26 = some lf26 := by kernel_rfl
theorem fr26 : FR Try.prog 26 lf26 := compF_sound (by kernel_rfl) Try.func26 (by kernel_rfl) cf26

def lf27 : LFn := ⟨6, [.tmp 2],
 .seq (.region [⟨(some 2), .mv (.const (.p .nilp)), none⟩])
 (.seq (.region [⟨(some 3), .mv (.tmp 0), none⟩, ⟨(some 4), .build [(.tight []), (.p (.bool false))] [(0, 1, (.tmp 3))], none⟩, ⟨(some 5), .box (.tmp 4), none⟩, ⟨(some 2), .mv (.tmp 5), none⟩])
 (.ret [false, false, true, false, false, false]))⟩
theorem cf27 : compF Try.prog (fun _ _ => false) Try.f27 = some lf27 := by kernel_rfl
theorem fr27 : FR Try.prog 27 lf27 := compF_sound (by kernel_rfl) Try.func27 (by kernel_rfl) cf27

def lf28 : LFn := ⟨26, [.tmp 4],
 .seq (.region [⟨(some 4), .mv (.const (.p (.int .i64 0))), none⟩])
 (.seq (.region [⟨(some 8), .mv (.tmp 0), none⟩, ⟨(some 9), .call 34 [(.tmp 8)], none⟩, ⟨(some 7), .mv (.tmp 9), none⟩, ⟨(some 10), .extract (.tmp 7) 0, none⟩, ⟨(some 11), .extract (.tmp 7) 1, none⟩, ⟨(some 5), .mv (.tmp 10), none⟩, ⟨(some 6), .mv (.tmp 11), none⟩])
 (.seq (.seq (.region [⟨(some 12), .mv (.tmp 0), none⟩, ⟨(some 13), .mv (.tmp 6), none⟩, ⟨(some 14), .mv (.tmp 5), none⟩, ⟨(some 15), .bin .leq (.tmp 14) (.const (.p (.int .u64 4611686018427387904))), none⟩, ⟨(some 16), .mv (.tmp 15), none⟩, ⟨(some 17), .mv (.tmp 5), (some (16, true))⟩, ⟨(some 18), .cv (.int .i64) (.tmp 17), (some (16, true))⟩, ⟨(some 19), .mv (.tmp 1), (some (16, true))⟩, ⟨(some 20), .bin .leq (.tmp 18) (.tmp 19), (some (16, true))⟩, ⟨(some 21), .pick (.tmp 16) (.tmp 20) (.const (.p (.bool false))), none⟩, ⟨(some 22), .call 35 [(.tmp 12), (.tmp 13), (.tmp 21)], none⟩, ⟨(some 23), .un .not (.tmp 22), none⟩])
 (.cond (.tmp 23) (.seq (.region [⟨(some 4), .mv (.const (.p (.int .i64 0))), none⟩])
 (.ret [false, false, false, false, true, false, false, false, false, false, false, false, false, false, false, false, false, false, false, false, false, false, false, false, false, false]))
 (.skip)))
 (.seq (.region [⟨(some 24), .mv (.tmp 5), none⟩, ⟨(some 25), .cv (.int .i64) (.tmp 24), none⟩, ⟨(some 4), .mv (.tmp 25), none⟩])
 (.ret [false, false, false, false, true, false, false, false, false, false, false, false, false, false, false, false, false, false, false, false, false, false, false, false, false, false]))))⟩
theorem cf28 : compF Try.prog (fun _ _ => false) Try.f28 = some lf28 := by kernel_rfl
theorem fr28 : FR Try.prog 28 lf28 := compF_sound (by kernel_rfl) Try.func28 (by kernel_rfl) cf28

def lf29 : LFn := ⟨10, [.tmp 2],
 .seq (.region [⟨(some 2), .mv (.const (.p (.int .i64 0))), none⟩])
 (.seq (.seq (.region [⟨(some 3), .mv (.tmp 0), none⟩, ⟨(some 4), .call 30 [(.tmp 3)], none⟩])
 (.cond (.tmp 4) (.seq (.region [⟨(some 2), .mv (.const (.p (.int .i64 0))), none⟩])
 (.ret [false, false, true, false, false, false, false, false, false, false]))
 (.skip)))
 (.seq (.region [⟨(some 5), .mv (.tmp 0), none⟩, ⟨(some 6), .nilChk (.tmp 5), none⟩, ⟨(some 7), .fieldAddr 0 (.tmp 6), none⟩, ⟨(some 8), .load false 1 (.tmp 7), none⟩, ⟨(some 9), .len (.tmp 8), none⟩, ⟨(some 2), .mv (.tmp 9), none⟩])
 (.ret [false, false, true, false, false, false, false, false, false, false])))⟩
theorem cf29 : compF Try.prog (fun _ _ => false) Try.f29 = some lf29 := by kernel_rfl
theorem fr29 : FR Try.prog 29 lf29 := compF_sound (by kernel_rfl) Try.func29 (by kernel_rfl) cf29

def lf30 : LFn := ⟨11, [.tmp 2],
 .seq (.region [⟨(some 2), .mv (.const (.p (.bool false))), none⟩])
 (.seq (.region [⟨(some 3), .mv (.tmp 0), none⟩, ⟨(some 4), .peq false (.tmp 3) (.const (.p .nilp)), none⟩, ⟨(some 5), .mv (.tmp 4), none⟩, ⟨(some 6), .mv (.tmp 0), (some (5, false))⟩, ⟨(some 7), .nilChk (.tmp 6), (some (5, false))⟩, ⟨(some 8), .fieldAddr 1 (.tmp 7), (some (5, false))⟩, ⟨(some 9), .load false 1 (.tmp 8), (some (5, false))⟩, ⟨(some 10), .pick (.tmp 5) (.const (.p (.bool true))) (.tmp 9), none⟩, ⟨(some 2), .mv (.tmp 10), none⟩])
 (.ret [false, false, true, false, false, false, false, false, false, false, false]))⟩
theorem cf30 : compF Try.prog (fun _ _ => false) Try.f30 = some lf30 := by kernel_rfl
theorem fr30 : FR Try.prog 30 lf30 := compF_sound (by kernel_rfl) Try.func30 (by kernel_rfl) cf30

def lf31 : LFn := ⟨26, [.tmp 4],
 .seq (.region [⟨(some 4), .mv (.const (.p (.bool false))), none⟩])
 (.seq (.seq (.region [⟨(some 6), .mv (.tmp 0), none⟩, ⟨(some 7), .len (.tmp 6), none⟩, ⟨(some 8), .mv (.tmp 1), none⟩, ⟨(some 9), .len (.tmp 8), none⟩, ⟨(some 10), .bin .neq (.tmp 7) (.tmp 9), none⟩])
 (.cond (.tmp 10) (.seq (.region [⟨(some 4), .mv (.const (.p (.bool false))), none⟩])
 (.ret [false, false, false, false, true, false, false, false, false, false, false, false, false, false, false, false, false, false, false, false, false, false, false, false, false, false]))
 (.skip)))
 (.seq (.seq (.region [⟨(some 11), .mv (.tmp 0), none⟩, ⟨(some 12), .len (.tmp 11), none⟩, ⟨(some 13), .mv (.const (.p (.int .i64 0))), none⟩])
 (.block 0 [false, false, false, false, false, false, false, false, false, false, false, false, false, false, false, false, false, false, false, false, false, false, false, false, false, false] (.loop [true, true, false, false, false, false, false, false, false, false, false, false, true, true, false, false, false, false, false, false, false, false, false, false, false, false] (.seq (.region [⟨(some 14), .bin .lss (.tmp 13) (.tmp 12), none⟩])
 (.seq (.cond (.tmp 14) (.skip)
 (.exit 0 [false, false, false, false, false, false, false, false, false, false, false, false, false, false, false, false, false, false, false, false, false, false, false, false, false, false]))
 (.seq (.block 1 [true, true, false, false, false, false, false, false, false, false, false, false, true, true, false, false, false, false, false, false, false, false, false, false, false, false] (.seq (.region [⟨(some 15), .mv (.tmp 13), none⟩, ⟨(some 5), .mv (.tmp 15), none⟩])
 (.seq (.drawn [⟨.h, 0, [], ⟨(some 16), .mv (.tmp 0), none⟩⟩, ⟨.h, 1, [], ⟨(some 17), .mv (.tmp 5), none⟩⟩, ⟨.h, 2, [], ⟨(some 18), .indexAddr 1 (.tmp 16) (.tmp 17), none⟩⟩, ⟨.h, 3, [], ⟨(some 19), .load false 1 (.tmp 18), none⟩⟩, ⟨.h, 4, [], ⟨(some 20), .mv (.tmp 1), none⟩⟩, ⟨.h, 5, [], ⟨(some 21), .mv (.tmp 5), none⟩⟩, ⟨.h, 6, [], ⟨(some 22), .indexAddr 1 (.tmp 20) (.tmp 21), none⟩⟩, ⟨.h, 7, [], ⟨(some 23), .load false 1 (.tmp 22), none⟩⟩, ⟨.h, 8, [], ⟨(some 24), .bin .neq (.tmp 19) (.tmp 23), none⟩⟩])
 (.cond (.tmp 24) (.seq (.region [⟨(some 4), .mv (.const (.p (.bool false))), none⟩])
 (.ret [false, false, false, false, true, false, false, false, false, false, false, false, false, false, false, false, false, false, false, false, false, false, false, false, false, false]))
 (.skip)))))
 (.region [⟨(some 25), .bin .add (.tmp 13) (.const (.p (.int .i64 1))), none⟩, ⟨(some 13), .mv (.tmp 25), none⟩])))))))
 (.seq (.region [⟨(some 4), .mv (.const (.p (.bool true))), none⟩])
 (.ret [false, false, false, false, true, false, false, false, false, false, false, false, false, false, false, false, false, false, false, false, false, false, false, false, false, false]))))⟩
theorem cf31 : compF Try.prog (fun _ _ => false) Try.f31 = some lf31 := by kernel_rfl
theorem fr31 : FR Try.prog 31 lf31 := compF_sound (by kernel_rfl) Try.func31 (by kernel_rfl) cf31

def lf32 : LFn := ⟨8, [.tmp 2],
 .seq (.region [⟨(some 2), .mv (.const (.tight [])), none⟩])
 (.seq (.region [⟨(some 3), .mv (.tmp 0), none⟩, ⟨(some 4), .nileq false .slice (.tmp 3), none⟩])
 (.both (.tmp 4) (.seq (.region [⟨(some 2), .mv (.const (.tight [])), none⟩])
 (.ret [false, false, true, false, false, false, false, false]))
 (.skip)
 (.seq (.region [⟨(some 5), .mkrow false 1 0 [(.p (.int .u8 0))] [], none⟩, ⟨(some 6), .mv (.tmp 0), none⟩, ⟨(some 7), .append false 1 1 (.tmp 5) (.tmp 6), none⟩, ⟨(some 2), .mv (.tmp 7), none⟩])
 (.ret [false, false, true, false, false, false, false, false]))))⟩
theorem cf32 : compF Try.prog (fun _ _ => false) Try.f32 = some lf32 := by kernel_rfl
theorem fr32 : FR Try.prog 32 lf32 := compF_sound (by kernel_rfl) Try.func32 (by kernel_rfl) cf32

def lf33 : LFn := ⟨40, [.tmp 4],
 .seq (.region [⟨(some 4), .mv (.const (.p (.int .i64 0))), none⟩])
 (.seq (.seq (.region [⟨(some 7), .mv (.tmp 0), none⟩, ⟨(some 8), .nilChk (.tmp 7), none⟩, ⟨(some 9), .fieldAddr 1 (.tmp 8), none⟩, ⟨(some 10), .load false 1 (.tmp 9), none⟩])
 (.cond (.tmp 10) (.seq (.region [⟨(some 4), .mv (.const (.p (.int .i64 0))), none⟩])
 (.ret [false, false, false, false, true, false, false, false, false, false, false, false, false, false, false, false, false, false, false, false, false, false, false, false, false, false, false, false, false, false, false, false, false, false, false, false, false, false, false, false]))
 (.skip)))
 (.seq (.region [⟨(some 11), .mv (.tmp 0), none⟩, ⟨(some 12), .nilChk (.tmp 11), none⟩, ⟨(some 13), .fieldAddr 0 (.tmp 12), none⟩, ⟨(some 14), .load false 1 (.tmp 13), none⟩, ⟨(some 5), .mv (.tmp 14), none⟩])
 (.seq (.region [⟨(some 15), .mv (.tmp 0), none⟩, ⟨(some 16), .call 36 [(.tmp 15)], none⟩, ⟨(some 6), .mv (.tmp 16), none⟩])
 (.seq (.seq (.region [⟨(some 17), .mv (.tmp 0), none⟩, ⟨(some 18), .nilChk (.tmp 17), none⟩, ⟨(some 19), .fieldAddr 1 (.tmp 18), none⟩, ⟨(some 20), .load false 1 (.tmp 19), none⟩, ⟨(some 21), .mv (.tmp 20), none⟩, ⟨(some 22), .mv (.tmp 6), (some (21, false))⟩, ⟨(some 23), .bin .gtr (.tmp 22) (.const (.p (.int .u64 4611686018427387904))), (some (21, false))⟩, ⟨(some 24), .pick (.tmp 21) (.const (.p (.bool true))) (.tmp 23), none⟩, ⟨(some 25), .mv (.tmp 24), none⟩, ⟨(some 26), .mv (.tmp 6), (some (25, false))⟩, ⟨(some 27), .cv (.int .i64) (.tmp 26), (some (25, false))⟩, ⟨(some 28), .mv (.tmp 1), (some (25, false))⟩, ⟨(some 29), .bin .gtr (.tmp 27) (.tmp 28), (some (25, false))⟩, ⟨(some 30), .pick (.tmp 25) (.const (.p (.bool true))) (.tmp 29), none⟩])
 (.cond (.tmp 30) (.seq (.region [⟨(some 31), .mv (.tmp 0), none⟩, ⟨(some 32), .mv (.tmp 0), none⟩, ⟨(some 33), .mv (.tmp 5), none⟩, ⟨(some 34), .nilChk (.tmp 31), none⟩, ⟨(some 35), .fieldAddr 0 (.tmp 34), none⟩, ⟨none, .store 1 (.tmp 35) (.tmp 33), none⟩, ⟨(some 36), .nilChk (.tmp 32), none⟩, ⟨(some 37), .fieldAddr 1 (.tmp 36), none⟩, ⟨none, .store 1 (.tmp 37) (.const (.p (.bool true))), none⟩])
 (.seq (.region [⟨(some 4), .mv (.const (.p (.int .i64 0))), none⟩])
 (.ret [false, false, false, false, true, false, false, false, false, false, false, false, false, false, false, false, false, false, false, false, false, false, false, false, false, false, false, false, false, false, false, false, false, false, false, false, false, false, false, false])))
 (.skip)))
 (.seq (.region [⟨(some 38), .mv (.tmp 6), none⟩, ⟨(some 39), .cv (.int .i64) (.tmp 38), none⟩, ⟨(some 4), .mv (.tmp 39), none⟩])
 (.ret [false, false, false, false, true, false, false, false, false, false, false, false, false, false, false, false, false, false, false, false, false, false, false, false, false, false, false, false, false, false, false, false, false, false, false, false, false, false, false, false]))))))⟩
theorem cf33 : compF Try.prog (fun _ _ => false) Try.f33 = some lf33 := by kernel_rfl
theorem fr33 : FR Try.prog 33 lf33 := compF_sound (by kernel_rfl) Try.func33 (by kernel_rfl) cf33

def lf34 : LFn := ⟨47, [.tmp 2, .tmp 3],
 .seq (.region [⟨(some 2), .mv (.const (.p (.int .u64 0))), none⟩, ⟨(some 3), .mv (.const (.p (.int .i64 0))), none⟩])
 (.seq (.region [⟨(some 4), .mv (.const (.p (.int .u64 0))), none⟩])
 (.seq (.seq (.region [⟨(some 7), .mv (.tmp 0), none⟩, ⟨(some 8), .call 29 [(.tmp 7)], none⟩, ⟨(some 9), .mn (.tmp 8) (.const (.p (.int .i64 10))), none⟩, ⟨(some 10), .mv (.const (.p (.int .i64 0))), none⟩])
 (.block 0 [false, false, false, false, false, false, false, false, false, false, false, false, false, false, false, false, false, false, false, false, false, false, false, false, false, false, false, false, false, false, false, false, false, false, false, false, false, false, false, false, false, false, false, false, false, false, false] (.loop [true, false, false, false, true, false, false, false, false, true, true, false, false, false, false, false, false, false, false, false, false, false, false, false, false, false, false, false, false, false, false, false, false, false, false, false, false, false, false, false, false, false, false, false, false, false, false] (.seq (.region [⟨(some 11), .bin .lss (.tmp 10) (.tmp 9), none⟩])
 (.seq (.cond (.tmp 11) (.skip)
 (.exit 0 [false, false, false, false, false, false, false, false, false, false, false, false, false, false, false, false, false, false, false, false, false, false, false, false, false, false, false, false, false, false, false, false, false, false, false, false, false, false, false, false, false, false, false, false, false, false, false]))
 (.seq (.block 1 [true, false, false, false, true, false, false, false, false, true, true, false, false, false, false, false, false, false, false, false, false, false, false, false, false, false, false, false, false, false, false, false, false, false, false, false, false, false, false, false, false, false, false, false, false, false, false] (.seq (.region [⟨(some 12), .mv (.tmp 10), none⟩, ⟨(some 5), .mv (.tmp 12), none⟩])
 (.seq (.region [⟨(some 13), .mv (.tmp 0), none⟩, ⟨(some 14), .nilChk (.tmp 13), none⟩, ⟨(some 15), .fieldAddr 0 (.tmp 14), none⟩, ⟨(some 16), .load false 1 (.tmp 15), none⟩, ⟨(some 17), .mv (.tmp 5), none⟩, ⟨(some 18), .indexAddr 1 (.tmp 16) (.tmp 17), none⟩, ⟨(some 19), .load false 1 (.tmp 18), none⟩, ⟨(some 6), .mv (.tmp 19), none⟩])
 (.seq (.block 2 [true, false, false, false, true, true, true, false, false, true, true, false, false, false, false, false, false, false, false, false, false, false, false, false, false, false, false, false, false, false, false, false, false, false, false, false, false, false, false, false, false, false, false, false, false, false, false] (.seq (.seq (.region [⟨(some 21), .mv (.tmp 5), none⟩, ⟨(some 22), .bin .eql (.tmp 21) (.const (.p (.int .i64 9))), none⟩, ⟨(some 23), .mv (.tmp 22), none⟩, ⟨(some 24), .mv (.tmp 6), (some (23, true))⟩, ⟨(some 25), .bin .gtr (.tmp 24) (.const (.p (.int .u8 1))), (some (23, true))⟩, ⟨(some 26), .pick (.tmp 23) (.tmp 25) (.const (.p (.bool false))), none⟩, ⟨(some 20), .mv (.tmp 26), none⟩])
 (.cond (.tmp 20) (.skip)
 (.region [⟨(some 27), .mv (.tmp 5), none⟩, ⟨(some 28), .bin .gtr (.tmp 27) (.const (.p (.int .i64 0))), none⟩, ⟨(some 29), .mv (.tmp 28), none⟩, ⟨(some 30), .mv (.tmp 6), (some (29, true))⟩, ⟨(some 31), .bin .eql (.tmp 30) (.const (.p (.int .u8 0))), (some (29, true))⟩, ⟨(some 32), .pick (.tmp 29) (.tmp 31) (.const (.p (.bool false))), none⟩, ⟨(some 20), .mv (.tmp 32), none⟩])))
 (.cond (.tmp 20) (.seq (.region [⟨(some 2), .mv (.const (.p (.int .u64 0))), none⟩, ⟨(some 3), .mv (.const (.p (.int .i64 0))), none⟩])
 (.ret [false, false, true, true, false, false, false, false, false, false, false, false, false, false, false, false, false, false, false, false, false, false, false, false, false, false, false, false, false, false, false, false, false, false, false, false, false, false, false, false, false, false, false, false, false, false, false]))
 (.skip))))
 (.seq (.region [⟨(some 33), .mv (.tmp 4), none⟩, ⟨(some 34), .mv (.tmp 6), none⟩, ⟨(some 35), .bin .and (.tmp 34) (.const (.p (.int .u8 127))), none⟩, ⟨(some 36), .cv (.int .u64) (.tmp 35), none⟩, ⟨(some 37), .mv (.tmp 5), none⟩, ⟨(some 38), .bin .mul (.const (.p (.int .i64 7))) (.tmp 37), none⟩, ⟨(some 39), .bin .shl (.tmp 36) (.tmp 38), none⟩, ⟨(some 40), .bin .or (.tmp 33) (.tmp 39), none⟩, ⟨(some 4), .mv (.tmp 40), none⟩])
 (.seq (.region [⟨(some 41), .mv (.tmp 6), none⟩, ⟨(some 42), .bin .lss (.tmp 41) (.const (.p (.int .u8 128))), none⟩])
 (.cond (.tmp 42) (.seq (.region [⟨(some 43), .mv (.tmp 4), none⟩, ⟨(some 44), .mv (.tmp 5), none⟩, ⟨(some 45), .bin .add (.tmp 44) (.const (.p (.int .i64 1))), none⟩, ⟨(some 2), .mv (.tmp 43), none⟩, ⟨(some 3), .mv (.tmp 45), none⟩])
 (.ret [false, false, true, true, false, false, false, false, false, false, false, false, false, false, false, false, false, false, false, false, false, false, false, false, false, false, false, false, false, false, false, false, false, false, false, false, false, false, false, false, false, false, false, false, false, false, false]))
 (.skip))))))))
 (.region [⟨(some 46), .bin .add (.tmp 10) (.const (.p (.int .i64 1))), none⟩, ⟨(some 10), .mv (.tmp 46), none⟩])))))))
 (.seq (.region [⟨(some 2), .mv (.const (.p (.int .u64 0))), none⟩, ⟨(some 3), .mv (.const (.p (.int .i64 0))), none⟩])
 (.ret [false, false, true, true, false, false, false, false, false, false, false, false, false, false, false, false, false, false, false, false, false, false, false, false, false, false, false, false, false, false, false, false, false, false, false, false, false, false, false, false, false, false, false, false, false, false, false]))))⟩
theorem cf34 : compF Try.prog (fun _ _ => false) Try.f34 = some lf34 := by kernel_rfl
theorem fr34 : FR Try.prog 34 lf34 := compF_sound (by kernel_rfl) Try.func34 (by kernel_rfl) cf34

def lf35 : LFn := ⟨28, [.tmp 6],
 .seq (.region [⟨(some 6), .mv (.const (.p (.bool false))), none⟩])
 (.seq (.seq (.region [⟨(some 7), .mv (.tmp 0), none⟩, ⟨(some 8), .call 30 [(.tmp 7)], none⟩, ⟨(some 9), .mv (.tmp 8), none⟩, ⟨(some 10), .mv (.tmp 1), (some (9, false))⟩, ⟨(some 11), .bin .eql (.tmp 10) (.const (.p (.int .i64 0))), (some (9, false))⟩, ⟨(some 12), .pick (.tmp 9) (.const (.p (.bool true))) (.tmp 11), none⟩, ⟨(some 13), .mv (.tmp 12), none⟩, ⟨(some 14), .mv (.tmp 2), (some (13, false))⟩, ⟨(some 15), .un .not (.tmp 14), (some (13, false))⟩, ⟨(some 16), .pick (.tmp 13) (.const (.p (.bool true))) (.tmp 15), none⟩])
 (.cond (.tmp 16) (.seq (.region [⟨(some 17), .mv (.tmp 0), none⟩, ⟨(some 18), .call 37 [(.tmp 17)], none⟩])
 (.seq (.region [⟨(some 6), .mv (.const (.p (.bool false))), none⟩])
 (.ret [false, false, false, false, false, false, true, false, false, false, false, false, false, false, false, false, false, false, false, false, false, false, false, false, false, false, false, false])))
 (.skip)))
 (.seq (.region [⟨(some 19), .mv (.tmp 0), none⟩, ⟨(some 20), .mv (.tmp 0), none⟩, ⟨(some 21), .nilChk (.tmp 20), none⟩, ⟨(some 22), .fieldAddr 0 (.tmp 21), none⟩, ⟨(some 23), .load false 1 (.tmp 22), none⟩, ⟨(some 24), .mv (.tmp 1), none⟩, ⟨(some 25), .slice 1 (.tmp 23) (some (.tmp 24)) none none, none⟩, ⟨(some 26), .nilChk (.tmp 19), none⟩, ⟨(some 27), .fieldAddr 0 (.tmp 26), none⟩, ⟨none, .store 1 (.tmp 27) (.tmp 25), none⟩])
 (.seq (.region [⟨(some 6), .mv (.const (.p (.bool true))), none⟩])
 (.ret [false, false, false, false, false, false, true, false, false, false, false, false, false, false, false, false, false, false, false, false, false, false, false, false, false, false, false, false]))))⟩
theorem cf35 : compF Try.prog (fun _ _ => false) Try.f35 = some lf35 := by kernel_rfl
theorem fr35 : FR Try.prog 35 lf35 := compF_sound (by kernel_rfl) Try.func35 (by kernel_rfl) cf35

def lf36 : LFn := ⟨82, [.tmp 2],
 .seq (.region [⟨(some 2), .mv (.const (.p (.int .u64 0))), none⟩])
 (.seq (.region [⟨(some 3), .mv (.const (.p (.int .u64 0))), none⟩])
 (.seq (.seq (.region [⟨(some 4), .mv (.const (.p (.int .i64 0))), none⟩])
 (.block 0 [true, false, false, false, false, false, false, false, false, false, false, false, false, false, false, false, false, false, false, false, false, false, false, false, false, false, false, false, false, false, false, false, false, false, false, false, false, false, false, false, false, false, false, false, false, false, false, false, false, false, false, false, false, false, false, false, false, false, false, false, false, false, false, false, false, false, false, false, false, false, false, false, false, false, false, false, false, false, false, false, false, false] (.loop [true, false, false, true, true, false, false, false, false, false, false, false, false, false, false, false, false, false, false, false, false, false, false, false, false, false, false, false, false, false, false, false, false, false, false, false, false, false, false, false, false, false, false, false, false, false, false, false, false, false, false, false, false, false, false, false, false, false, false, false, false, false, false, false, false, false, false, false, false, false, false, false, false, false, false, false, false, false, false, false, false, false] (.seq (.seq (.region [⟨(some 6), .mv (.tmp 4), none⟩, ⟨(some 7), .bin .lss (.tmp 6) (.const (.p (.int .i64 10))), none⟩, ⟨(some 8), .mv (.tmp 7), none⟩, ⟨(some 9), .mv (.tmp 4), (some (8, true))⟩, ⟨(some 10), .mv (.tmp 0), (some (8, true))⟩, ⟨(some 11), .nilChk (.tmp 10), (some (8, true))⟩, ⟨(some 12), .fieldAddr 0 (.tmp 11), (some (8, true))⟩, ⟨(some 13), .load false 1 (.tmp 12), (some (8, true))⟩, ⟨(some 14), .len (.tmp 13), (some (8, true))⟩, ⟨(some 15), .bin .lss (.tmp 9) (.tmp 14), (some (8, true))⟩, ⟨(some 16), .pick (.tmp 8) (.tmp 15) (.const (.p (.bool false))), none⟩])
 (.cond (.tmp 16) (.skip)
 (.exit 0 [true, false, false, false, false, false, false, false, false, false, false, false, false, false, false, false, false, false, false, false, false, false, false, false, false, false, false, false, false, false, false, false, false, false, false, false, false, false, false, false, false, false, false, false, false, false, false, false, false, false, false, false, false, false, false, false, false, false, false, false, false, false, false, false, false, false, false, false, false, false, false, false, false, false, false, false, false, false, false, false, false, false])))
 (.seq (.block 1 [true, false, false, true, true, false, false, false, false, false, false, false, false, false, false, false, false, false, false, false, false, false, false, false, false, false, false, false, false, false, false, false, false, false, false, false, false, false, false, false, false, false, false, false, false, false, false, false, false, false, false, false, false, false, false, false, false, false, false, false, false, false, false, false, false, false, false, false, false, false, false, false, false, false, false, false, false, false, false, false, false, false] (.seq (.region [⟨(some 19), .mv (.tmp 0), none⟩, ⟨(some 20), .nilChk (.tmp 19), none⟩, ⟨(some 21), .fieldAddr 0 (.tmp 20), none⟩, ⟨(some 22), .load false 1 (.tmp 21), none⟩, ⟨(some 23), .mv (.tmp 4), none⟩, ⟨(some 24), .indexAddr 1 (.tmp 22) (.tmp 23), none⟩, ⟨(some 25), .load false 1 (.tmp 24), none⟩, ⟨(some 26), .bin .rem (.tmp 25) (.const (.p (.int .u8 128))), none⟩, ⟨(some 27), .cv (.int .u64) (.tmp 26), none⟩, ⟨(some 5), .mv (.tmp 27), none⟩])
 (.seq (.seq (.region [⟨(some 28), .mv (.tmp 4), none⟩, ⟨(some 29), .bin .eql (.tmp 28) (.const (.p (.int .i64 9))), none⟩, ⟨(some 30), .mv (.tmp 29), none⟩, ⟨(some 31), .mv (.tmp 0), (some (30, true))⟩, ⟨(some 32), .nilChk (.tmp 31), (some (30, true))⟩, ⟨(some 33), .fieldAddr 0 (.tmp 32), (some (30, true))⟩, ⟨(some 34), .load false 1 (.tmp 33), (some (30, true))⟩, ⟨(some 35), .mv (.tmp 4), (some (30, true))⟩, ⟨(some 36), .indexAddr 1 (.tmp 34) (.tmp 35), (some (30, true))⟩, ⟨(some 37), .load false 1 (.tmp 36), (some (30, true))⟩, ⟨(some 38), .bin .gtr (.tmp 37) (.const (.p (.int .u8 1))), (some (30, true))⟩, ⟨(some 39), .pick (.tmp 30) (.tmp 38) (.const (.p (.bool false))), none⟩, ⟨(some 40), .mv (.tmp 39), none⟩, ⟨(some 41), .mv (.tmp 4), (some (40, false))⟩, ⟨(some 42), .bin .gtr (.tmp 41) (.const (.p (.int .i64 0))), (some (40, false))⟩, ⟨(some 43), .mv (.tmp 42), (some (40, false))⟩, ⟨(some 44), .mv (.tmp 0), (some (43, true))⟩, ⟨(some 45), .nilChk (.tmp 44), (some (43, true))⟩, ⟨(some 46), .fieldAddr 0 (.tmp 45), (some (43, true))⟩, ⟨(some 47), .load false 1 (.tmp 46), (some (43, true))⟩, ⟨(some 48), .mv (.tmp 4), (some (43, true))⟩, ⟨(some 49), .indexAddr 1 (.tmp 47) (.tmp 48), (some (43, true))⟩, ⟨(some 50), .load false 1 (.tmp 49), (some (43, true))⟩, ⟨(some 51), .bin .eql (.tmp 50) (.const (.p (.int .u8 0))), (some (43, true))⟩, ⟨(some 52), .pick (.tmp 43) (.tmp 51) (.const (.p (.bool false))), (some (40, false))⟩, ⟨(some 53), .pick (.tmp 40) (.const (.p (.bool true))) (.tmp 52), none⟩])
 (.cond (.tmp 53) (.exit 0 [true, false, false, false, false, false, false, false, false, false, false, false, false, false, false, false, false, false, false, false, false, false, false, false, false, false, false, false, false, false, false, false, false, false, false, false, false, false, false, false, false, false, false, false, false, false, false, false, false, false, false, false, false, false, false, false, false, false, false, false, false, false, false, false, false, false, false, false, false, false, false, false, false, false, false, false, false, false, false, false, false, false])
 (.skip)))
 (.seq (.region [⟨(some 54), .mv (.tmp 3), none⟩, ⟨(some 55), .mv (.tmp 5), none⟩, ⟨(some 56), .mv (.tmp 4), none⟩, ⟨(some 57), .bin .mul (.const (.p (.int .i64 7))) (.tmp 56), none⟩, ⟨(some 58), .bin .shl (.tmp 55) (.tmp 57), none⟩, ⟨(some 59), .bin .add (.tmp 54) (.tmp 58), none⟩, ⟨(some 3), .mv (.tmp 59), none⟩])
 (.seq (.region [⟨(some 60), .mv (.tmp 0), none⟩, ⟨(some 61), .nilChk (.tmp 60), none⟩, ⟨(some 62), .fieldAddr 0 (.tmp 61), none⟩, ⟨(some 63), .load false 1 (.tmp 62), none⟩, ⟨(some 64), .mv (.tmp 4), none⟩, ⟨(some 65), .indexAddr 1 (.tmp 63) (.tmp 64), none⟩, ⟨(some 66), .load false 1 (.tmp 65), none⟩, ⟨(some 67), .bin .lss (.tmp 66) (.const (.p (.int .u8 128))), none⟩])
 (.cond (.tmp 67) (.seq (.region [⟨(some 68), .mv (.tmp 0), none⟩, ⟨(some 69), .mv (.tmp 0), none⟩, ⟨(some 70), .nilChk (.tmp 69), none⟩, ⟨(some 71), .fieldAddr 0 (.tmp 70), none⟩, ⟨(some 72), .load false 1 (.tmp 71), none⟩, ⟨(some 73), .mv (.tmp 4), none⟩, ⟨(some 74), .bin .add (.tmp 73) (.const (.p (.int .i64 1))), none⟩, ⟨(some 75), .slice 1 (.tmp 72) (some (.tmp 74)) none none, none⟩, ⟨(some 76), .nilChk (.tmp 68), none⟩, ⟨(some 77), .fieldAddr 0 (.tmp 76), none⟩, ⟨none, .store 1 (.tmp 77) (.tmp 75), none⟩])
 (.seq (.region [⟨(some 78), .mv (.tmp 3), none⟩, ⟨(some 2), .mv (.tmp 78), none⟩])
 (.ret [false, false, true, false, false, false, false, false, false, false, false, false, false, false, false, false, false, false, false, false, false, false, false, false, false, false, false, false, false, false, false, false, false, false, false, false, false, false, false, false, false, false, false, false, false, false, false, false, false, false, false, false, false, false, false, false, false, false, false, false, false, false, false, false, false, false, false, false, false, false, false, false, false, false, false, false, false, false, false, false, false, false])))
 (.skip)))))))
 (.region [⟨(some 17), .mv (.tmp 4), none⟩, ⟨(some 18), .bin .add (.tmp 17) (.const (.p (.int .i64 1))), none⟩, ⟨(some 4), .mv (.tmp 18), none⟩]))))))
 (.seq (.region [⟨(some 79), .mv (.tmp 0), none⟩, ⟨(some 80), .nilChk (.tmp 79), none⟩, ⟨(some 81), .fieldAddr 1 (.tmp 80), none⟩, ⟨none, .store 1 (.tmp 81) (.const (.p (.bool true))), none⟩])
 (.seq (.region [⟨(some 2), .mv (.const (.p (.int .u64 0))), none⟩])
 (.ret [false, false, true, false, false, false, false, false, false, false, false, false, false, false, false, false, false, false, false, false, false, false, false, false, false, false, false, false, false, false, false, false, false, false, false, false, false, false, false, false, false, false, false, false, false, false, false, false, false, false, false, false, false, false, false, false, false, false, false, false, false, false, false, false, false, false, false, false, false, false, false, false, false, false, false, false, false, false, false, false, false, false])))))⟩
theorem cf36 : compF Try.prog (fun _ _ => false) Try.f36 = some lf36 := by kernel_rfl
theorem fr36 : FR Try.prog 36 lf36 := compF_sound (by kernel_rfl) Try.func36 (by kernel_rfl) cf36

def lf37 : LFn := ⟨7, [],
 .seq (.region [⟨(some 2), .mv (.tmp 0), none⟩, ⟨(some 3), .peq true (.tmp 2) (.const (.p .nilp)), none⟩])
 (.cond (.tmp 3) (.region [⟨(some 4), .mv (.tmp 0), none⟩, ⟨(some 5), .nilChk (.tmp 4), none⟩, ⟨(some 6), .fieldAddr 1 (.tmp 5), none⟩, ⟨none, .store 1 (.tmp 6) (.const (.p (.bool true))), none⟩])
 (.skip))⟩
theorem cf37 : compF Try.prog (fun _ _ => false) Try.f37 = some lf37 := by kernel_rfl
theorem fr37 : FR Try.prog 37 lf37 := compF_sound (by kernel_rfl) Try.func37 (by kernel_rfl) cf37

end Go.Proofs.Ythiilhepneddpaa
