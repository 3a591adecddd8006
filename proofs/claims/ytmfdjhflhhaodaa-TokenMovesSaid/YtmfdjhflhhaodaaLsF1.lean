/- Functions of the program in LS, each with the proof that it is the loaded one. -/
import Derived.Test.YtmfdjhflhhaodaaLsG5
import Derived.Test.YtmfdjhflhhaodaaProg
import Derived.KernelRfl
set_option maxRecDepth 100000
namespace Go.Proofs.Ytmfdjhflhhaodaa
open Go.LS

def lf2 : LFn := ⟨1, [],
 .region [⟨(some 0), .fail, none⟩]⟩
theorem cf2 : compF Try.prog (fun _ _ => false) Try.f2 = some lf2 := by kernel_rfl
theorem fr2 : FR Try.prog 2 lf2 := compF_sound (by kernel_rfl) Try.func2 (by kernel_rfl) cf2

def lf3 : LFn := ⟨55, [.tmp 2],
 .seq (.region [⟨(some 1), .box (.tmp 0), none⟩, ⟨(some 2), .mv (.const (.p (.bool false))), none⟩])
 (.seq (.region [⟨(some 8), .load true 3 (.tmp 1), none⟩, ⟨(some 9), .call 6 [(.tmp 8)], none⟩, ⟨(some 7), .mv (.tmp 9), none⟩, ⟨(some 10), .extract (.tmp 7) 0, none⟩, ⟨(some 11), .extract (.tmp 7) 1, none⟩, ⟨(some 3), .mv (.tmp 10), none⟩, ⟨(some 4), .mv (.tmp 11), none⟩])
 (.seq (.seq (.drawn [⟨.c, 0, [], ⟨(some 12), .call 7 [], none⟩⟩, ⟨.h, 1, [], ⟨(some 13), .un .not (.tmp 12), none⟩⟩, ⟨.h, 2, [], ⟨(some 14), .mv (.tmp 13), none⟩⟩, ⟨.h, 3, [], ⟨(some 15), .load true 3 (.tmp 1), (some (14, false))⟩⟩, ⟨.h, 5, [], ⟨(some 17), .load true 3 (.tmp 1), (some (14, false))⟩⟩, ⟨.c, 4, [1, 2, 3], ⟨(some 16), .call 8 [(.tmp 15)], (some (14, false))⟩⟩, ⟨.c, 6, [1, 2, 3, 5], ⟨(some 18), .call 9 [(.tmp 17)], (some (14, false))⟩⟩, ⟨.h, 7, [], ⟨(some 19), .beq true (.tmp 16) (.tmp 18), (some (14, false))⟩⟩, ⟨.h, 8, [], ⟨(some 20), .pick (.tmp 14) (.const (.p (.bool true))) (.tmp 19), none⟩⟩])
 (.cond (.tmp 20) (.seq (.region [⟨(some 2), .mv (.const (.p (.bool false))), none⟩])
 (.ret [false, false, true, false, false, false, false, false, false, false, false, false, false, false, false, false, false, false, false, false, false, false, false, false, false, false, false, false, false, false, false, false, false, false, false, false, false, false, false, false, false, false, false, false, false, false, false, false, false, false, false, false, false, false, false]))
 (.skip)))
 (.seq (.seq (.region [⟨(some 21), .load true 3 (.tmp 1), none⟩, ⟨(some 22), .call 9 [(.tmp 21)], none⟩, ⟨(some 23), .un .not (.tmp 22), none⟩])
 (.cond (.tmp 23) (.seq (.region [⟨(some 24), .mv (.tmp 3), none⟩, ⟨(some 25), .len (.tmp 24), none⟩, ⟨(some 26), .bin .eql (.tmp 25) (.const (.p (.int .i64 0))), none⟩, ⟨(some 27), .mv (.tmp 26), none⟩, ⟨(some 28), .mv (.tmp 4), (some (27, true))⟩, ⟨(some 29), .bin .eql (.tmp 28) (.const (.p (.int .i64 180))), (some (27, true))⟩, ⟨(some 30), .pick (.tmp 27) (.tmp 29) (.const (.p (.bool false))), none⟩, ⟨(some 2), .mv (.tmp 30), none⟩])
 (.ret [false, false, true, false, false, false, false, false, false, false, false, false, false, false, false, false, false, false, false, false, false, false, false, false, false, false, false, false, false, false, false, false, false, false, false, false, false, false, false, false, false, false, false, false, false, false, false, false, false, false, false, false, false, false, false]))
 (.skip)))
 (.seq (.region [⟨(some 32), .mv (.tmp 3), none⟩, ⟨(some 33), .call 10 [(.tmp 32)], none⟩, ⟨(some 31), .mv (.tmp 33), none⟩, ⟨(some 34), .extract (.tmp 31) 0, none⟩, ⟨(some 35), .extract (.tmp 31) 1, none⟩, ⟨(some 5), .alloc [(.p (.int .i64 0)), (.p (.int .i64 0)), (.p (.int .i64 0))], none⟩, ⟨none, .store 3 (.tmp 5) (.tmp 34), none⟩, ⟨(some 6), .mv (.tmp 35), none⟩])
 (.seq (.drawn [⟨.h, 0, [], ⟨(some 36), .mv (.tmp 4), none⟩⟩, ⟨.h, 1, [], ⟨(some 37), .bin .eql (.tmp 36) (.const (.p (.int .i64 0))), none⟩⟩, ⟨.h, 2, [], ⟨(some 38), .mv (.tmp 37), none⟩⟩, ⟨.h, 3, [], ⟨(some 39), .mv (.tmp 3), (some (38, true))⟩⟩, ⟨.h, 4, [], ⟨(some 40), .cv .b2s (.tmp 39), (some (38, true))⟩⟩, ⟨.h, 5, [], ⟨(some 41), .load true 3 (.tmp 1), (some (38, true))⟩⟩, ⟨.c, 6, [0, 1, 2, 5], ⟨(some 42), .call 11 [(.tmp 41)], (some (38, true))⟩⟩, ⟨.h, 7, [], ⟨(some 43), .cv .b2s (.tmp 42), (some (38, true))⟩⟩, ⟨.h, 8, [], ⟨(some 44), .bin .eql (.tmp 40) (.tmp 43), (some (38, true))⟩⟩, ⟨.h, 9, [], ⟨(some 45), .pick (.tmp 38) (.tmp 44) (.const (.p (.bool false))), none⟩⟩, ⟨.h, 10, [], ⟨(some 46), .mv (.tmp 45), none⟩⟩, ⟨.h, 11, [], ⟨(some 47), .mv (.tmp 6), (some (46, true))⟩⟩, ⟨.h, 12, [], ⟨(some 48), .bin .eql (.tmp 47) (.const (.p (.int .i64 0))), (some (46, true))⟩⟩, ⟨.h, 13, [], ⟨(some 49), .pick (.tmp 46) (.tmp 48) (.const (.p (.bool false))), none⟩⟩, ⟨.h, 14, [], ⟨(some 50), .mv (.tmp 49), none⟩⟩, ⟨.h, 15, [], ⟨(some 51), .load true 3 (.tmp 5), (some (50, true))⟩⟩, ⟨.h, 16, [], ⟨(some 52), .load true 3 (.tmp 1), (some (50, true))⟩⟩, ⟨.h, 17, [], ⟨(some 53), .seq false [(0, .int), (1, .int), (2, .int)] (.tmp 51) (.tmp 52), (some (50, true))⟩⟩, ⟨.h, 18, [], ⟨(some 54), .pick (.tmp 50) (.tmp 53) (.const (.p (.bool false))), none⟩⟩, ⟨.h, 19, [], ⟨(some 2), .mv (.tmp 54), none⟩⟩])
 (.ret [false, false, true, false, false, false, false, false, false, false, false, false, false, false, false, false, false, false, false, false, false, false, false, false, false, false, false, false, false, false, false, false, false, false, false, false, false, false, false, false, false, false, false, false, false, false, false, false, false, false, false, false, false, false, false]))))))⟩
theorem cf3 : compF Try.prog (fun _ _ => false) Try.f3 = some lf3 := by kernel_rfl
theorem fr3 : FR Try.prog 3 lf3 := compF_sound (by kernel_rfl) Try.func3 (by kernel_rfl) cf3

def lf4 : LFn := ⟨42, [.tmp 2],
 .seq (.region [⟨(some 2), .mv (.const (.p (.bool false))), none⟩])
 (.seq (.seq (.region [⟨(some 7), .mv (.tmp 0), none⟩, ⟨(some 8), .len (.tmp 7), none⟩, ⟨(some 9), .bin .gtr (.tmp 8) (.const (.p (.int .i64 1000))), none⟩])
 (.cond (.tmp 9) (.seq (.region [⟨(some 10), .call 7 [], none⟩, ⟨(some 2), .mv (.tmp 10), none⟩])
 (.ret [false, false, true, false, false, false, false, false, false, false, false, false, false, false, false, false, false, false, false, false, false, false, false, false, false, false, false, false, false, false, false, false, false, false, false, false, false, false, false, false, false, false]))
 (.skip)))
 (.seq (.region [⟨(some 12), .mkrow false 1 0 [(.p (.int .u8 0))] [], none⟩, ⟨(some 13), .mv (.tmp 0), none⟩, ⟨(some 14), .append false 1 1 (.tmp 12) (.tmp 13), none⟩, ⟨(some 15), .call 10 [(.tmp 14)], none⟩, ⟨(some 11), .mv (.tmp 15), none⟩, ⟨(some 16), .extract (.tmp 11) 0, none⟩, ⟨(some 17), .extract (.tmp 11) 1, none⟩, ⟨(some 3), .alloc [(.p (.int .i64 0)), (.p (.int .i64 0)), (.p (.int .i64 0))], none⟩, ⟨none, .store 3 (.tmp 3) (.tmp 16), none⟩, ⟨(some 4), .mv (.tmp 17), none⟩])
 (.seq (.region [⟨(some 19), .mv (.tmp 0), none⟩, ⟨(some 20), .call 12 [(.tmp 19)], none⟩, ⟨(some 18), .mv (.tmp 20), none⟩, ⟨(some 21), .extract (.tmp 18) 0, none⟩, ⟨(some 22), .extract (.tmp 18) 1, none⟩, ⟨(some 5), .alloc [(.p (.int .i64 0)), (.p (.int .i64 0)), (.p (.int .i64 0))], none⟩, ⟨none, .store 3 (.tmp 5) (.tmp 21), none⟩, ⟨(some 6), .mv (.tmp 22), none⟩])
 (.seq (.region [⟨(some 23), .call 7 [], none⟩, ⟨(some 24), .mv (.tmp 23), none⟩, ⟨(some 25), .load true 3 (.tmp 3), (some (24, true))⟩, ⟨(some 26), .load true 3 (.tmp 5), (some (24, true))⟩, ⟨(some 27), .seq false [(0, .int), (1, .int), (2, .int)] (.tmp 25) (.tmp 26), (some (24, true))⟩, ⟨(some 28), .pick (.tmp 24) (.tmp 27) (.const (.p (.bool false))), none⟩, ⟨(some 29), .mv (.tmp 28), none⟩, ⟨(some 30), .mv (.tmp 4), (some (29, true))⟩, ⟨(some 31), .bin .eql (.tmp 30) (.const (.p (.int .i64 0))), (some (29, true))⟩, ⟨(some 32), .mv (.tmp 6), (some (29, true))⟩, ⟨(some 33), .beq false (.tmp 31) (.tmp 32), (some (29, true))⟩, ⟨(some 34), .pick (.tmp 29) (.tmp 33) (.const (.p (.bool false))), none⟩, ⟨(some 35), .mv (.tmp 34), none⟩, ⟨(some 36), .mv (.tmp 6), (some (35, true))⟩, ⟨(some 37), .mv (.tmp 36), (some (35, true))⟩, ⟨(some 38), .mv (.tmp 4), (some (37, false))⟩, ⟨(some 39), .bin .eql (.tmp 38) (.const (.p (.int .i64 180))), (some (37, false))⟩, ⟨(some 40), .pick (.tmp 37) (.const (.p (.bool true))) (.tmp 39), (some (35, true))⟩, ⟨(some 41), .pick (.tmp 35) (.tmp 40) (.const (.p (.bool false))), none⟩, ⟨(some 2), .mv (.tmp 41), none⟩])
 (.ret [false, false, true, false, false, false, false, false, false, false, false, false, false, false, false, false, false, false, false, false, false, false, false, false, false, false, false, false, false, false, false, false, false, false, false, false, false, false, false, false, false, false])))))⟩
theorem cf4 : compF Try.prog (fun _ _ => false) Try.f4 = some lf4 := by kernel_rfl
theorem fr4 : FR Try.prog 4 lf4 := compF_sound (by kernel_rfl) Try.func4 (by kernel_rfl) cf4

def lf5 : LFn := ⟨62, [.tmp 8],
 .seq (.region [⟨(some 4), .box (.tmp 0), none⟩, ⟨(some 8), .mv (.const (.p (.bool false))), none⟩])
 (.seq (.seq (.region [⟨(some 11), .mv (.tmp 2), none⟩, ⟨(some 12), .len (.tmp 11), none⟩, ⟨(some 13), .bin .gtr (.tmp 12) (.const (.p (.int .i64 200))), none⟩, ⟨(some 14), .mv (.tmp 13), none⟩, ⟨(some 15), .mv (.tmp 3), (some (14, false))⟩, ⟨(some 16), .len (.tmp 15), (some (14, false))⟩, ⟨(some 17), .bin .gtr (.tmp 16) (.const (.p (.int .i64 200))), (some (14, false))⟩, ⟨(some 18), .pick (.tmp 14) (.const (.p (.bool true))) (.tmp 17), none⟩, ⟨(some 19), .mv (.tmp 18), none⟩, ⟨(some 20), .load true 3 (.tmp 4), (some (19, false))⟩, ⟨(some 21), .mv (.tmp 1), (some (19, false))⟩, ⟨(some 22), .mv (.tmp 2), (some (19, false))⟩, ⟨(some 23), .call 13 [(.tmp 20), (.const (.p (.int .i64 1))), (.tmp 21), (.tmp 22)], (some (19, false))⟩, ⟨(some 24), .bin .neq (.tmp 23) (.const (.p (.int .i64 0))), (some (19, false))⟩, ⟨(some 25), .pick (.tmp 19) (.const (.p (.bool true))) (.tmp 24), none⟩])
 (.cond (.tmp 25) (.seq (.region [⟨(some 26), .call 7 [], none⟩, ⟨(some 8), .mv (.tmp 26), none⟩])
 (.ret [false, false, false, false, false, false, false, false, true, false, false, false, false, false, false, false, false, false, false, false, false, false, false, false, false, false, false, false, false, false, false, false, false, false, false, false, false, false, false, false, false, false, false, false, false, false, false, false, false, false, false, false, false, false, false, false, false, false, false, false, false, false]))
 (.skip)))
 (.seq (.region [⟨(some 27), .mkrow false 17 0 [(.p (.int .i64 0)), (.p (.int .i64 0)), (.p (.str [])), (.p (.str [])), (.p (.int .i64 0)), (.p (.int .i64 0)), (.p (.str [])), (.tight []), (.tight []), (.p (.int .i64 0)), (.p (.int .i64 0)), (.p (.str [])), (.tight []), (.tight []), (.tight []), (.p (.int .i64 0)), (.p (.int .i64 0))] [], none⟩, ⟨(some 28), .mv (.tmp 2), none⟩, ⟨(some 29), .append false 17 248 (.tmp 27) (.tmp 28), none⟩, ⟨(some 30), .mv (.tmp 3), none⟩, ⟨(some 31), .append false 17 248 (.tmp 29) (.tmp 30), none⟩, ⟨(some 9), .mv (.tmp 31), none⟩])
 (.seq (.seq (.region [⟨(some 32), .call 7 [], none⟩, ⟨(some 33), .un .not (.tmp 32), none⟩, ⟨(some 34), .mv (.tmp 33), none⟩, ⟨(some 35), .load true 3 (.tmp 4), (some (34, false))⟩, ⟨(some 36), .mv (.tmp 1), (some (34, false))⟩, ⟨(some 37), .mv (.tmp 9), (some (34, false))⟩, ⟨(some 38), .call 13 [(.tmp 35), (.const (.p (.int .i64 1))), (.tmp 36), (.tmp 37)], (some (34, false))⟩, ⟨(some 39), .bin .neq (.tmp 38) (.const (.p (.int .i64 0))), (some (34, false))⟩, ⟨(some 40), .pick (.tmp 34) (.const (.p (.bool true))) (.tmp 39), none⟩])
 (.cond (.tmp 40) (.seq (.region [⟨(some 8), .mv (.const (.p (.bool false))), none⟩])
 (.ret [false, false, false, false, false, false, false, false, true, false, false, false, false, false, false, false, false, false, false, false, false, false, false, false, false, false, false, false, false, false, false, false, false, false, false, false, false, false, false, false, false, false, false, false, false, false, false, false, false, false, false, false, false, false, false, false, false, false, false, false, false, false]))
 (.skip)))
 (.seq (.region [⟨(some 41), .fieldAddr 1 (.tmp 4), none⟩, ⟨(some 42), .load false 1 (.tmp 41), none⟩, ⟨(some 43), .bin .add (.tmp 42) (.const (.p (.int .i64 1))), none⟩, ⟨(some 10), .mv (.tmp 43), none⟩])
 (.seq (.seq (.region [⟨(some 44), .mv (.tmp 10), none⟩, ⟨(some 45), .mv (.tmp 9), none⟩, ⟨(some 46), .len (.tmp 45), none⟩, ⟨(some 47), .bin .geq (.tmp 44) (.tmp 46), none⟩])
 (.cond (.tmp 47) (.seq (.region [⟨(some 8), .mv (.const (.p (.bool true))), none⟩])
 (.ret [false, false, false, false, false, false, false, false, true, false, false, false, false, false, false, false, false, false, false, false, false, false, false, false, false, false, false, false, false, false, false, false, false, false, false, false, false, false, false, false, false, false, false, false, false, false, false, false, false, false, false, false, false, false, false, false, false, false, false, false, false, false]))
 (.skip)))
 (.seq (.drawn [⟨.h, 0, [], ⟨(some 48), .load true 3 (.tmp 4), none⟩⟩, ⟨.h, 1, [], ⟨(some 49), .mv (.tmp 10), none⟩⟩, ⟨.h, 2, [], ⟨(some 50), .bin .add (.tmp 49) (.const (.p (.int .i64 1))), none⟩⟩, ⟨.h, 3, [], ⟨(some 51), .mv (.tmp 9), none⟩⟩, ⟨.h, 4, [], ⟨(some 52), .mv (.tmp 10), none⟩⟩, ⟨.h, 5, [], ⟨(some 53), .bin .sub (.tmp 52) (.const (.p (.int .i64 1))), none⟩⟩, ⟨.h, 6, [], ⟨(some 54), .indexAddr 17 (.tmp 51) (.tmp 53), none⟩⟩, ⟨.h, 7, [], ⟨(some 55), .fieldAddr 0 (.tmp 54), none⟩⟩, ⟨.h, 8, [], ⟨(some 56), .load false 1 (.tmp 55), none⟩⟩, ⟨.h, 9, [], ⟨(some 57), .mv (.tmp 9), none⟩⟩, ⟨.h, 10, [], ⟨(some 58), .mv (.tmp 10), none⟩⟩, ⟨.h, 11, [], ⟨(some 59), .slice 17 (.tmp 57) (some (.tmp 58)) none none, none⟩⟩, ⟨.c, 12, [0, 1, 2, 3, 4, 5, 6, 7, 8, 9, 10, 11], ⟨(some 60), .call 13 [(.tmp 48), (.tmp 50), (.tmp 56), (.tmp 59)], none⟩⟩, ⟨.h, 13, [], ⟨(some 61), .bin .eql (.tmp 60) (.const (.p (.int .i64 181))), none⟩⟩, ⟨.h, 14, [], ⟨(some 8), .mv (.tmp 61), none⟩⟩])
 (.ret [false, false, false, false, false, false, false, false, true, false, false, false, false, false, false, false, false, false, false, false, false, false, false, false, false, false, false, false, false, false, false, false, false, false, false, false, false, false, false, false, false, false, false, false, false, false, false, false, false, false, false, false, false, false, false, false, false, false, false, false, false, false])))))))⟩
theorem cf5 : compF Try.prog (fun _ _ => false) Try.f5 = some lf5 := by kernel_rfl
theorem fr5 : FR Try.prog 5 lf5 := compF_sound (by kernel_rfl) Try.func5 (by kernel_rfl) cf5

def lf6 : LFn := ⟨9, [.tmp 2, .tmp 3],
 .seq (.region [⟨(some 1), .box (.tmp 0), none⟩, ⟨(some 2), .mv (.const (.tight [])), none⟩, ⟨(some 3), .mv (.const (.p (.int .i64 0))), none⟩])
 (.seq (.seq (.region [⟨(some 4), .load true 3 (.tmp 1), none⟩, ⟨(some 5), .call 8 [(.tmp 4)], none⟩, ⟨(some 6), .un .not (.tmp 5), none⟩])
 (.cond (.tmp 6) (.seq (.region [⟨(some 2), .mv (.const (.tight [])), none⟩, ⟨(some 3), .mv (.const (.p (.int .i64 180))), none⟩])
 (.ret [false, false, true, true, false, false, false, false, false]))
 (.skip)))
 (.seq (.region [⟨(some 7), .load true 3 (.tmp 1), none⟩, ⟨(some 8), .call 14 [(.tmp 7)], none⟩, ⟨(some 2), .mv (.tmp 8), none⟩, ⟨(some 3), .mv (.const (.p (.int .i64 0))), none⟩])
 (.ret [false, false, true, true, false, false, false, false, false])))⟩
theorem cf6 : compF Try.prog (fun _ _ => false) Try.f6 = some lf6 := by kernel_rfl
theorem fr6 : FR Try.prog 6 lf6 := compF_sound (by kernel_rfl) Try.func6 (by kernel_rfl) cf6

def lf7 : LFn := ⟨95, [.tmp 0],
 .seq (.region [⟨(some 0), .mv (.const (.p (.bool false))), none⟩])
 (.seq (.region [⟨(some 11), .build [(.p (.int .i64 0)), (.p (.int .i64 0)), (.p (.int .i64 0))] [(0, 1, (.const (.p (.int .i64 1)))), (1, 1, (.const (.p (.int .i64 5)))), (2, 1, (.const (.p (.int .i64 2))))], none⟩, ⟨(some 1), .alloc [(.p (.int .i64 0)), (.p (.int .i64 0)), (.p (.int .i64 0))], none⟩, ⟨none, .store 3 (.tmp 1) (.tmp 11), none⟩])
 (.seq (.region [⟨(some 13), .load true 3 (.tmp 1), none⟩, ⟨(some 14), .call 6 [(.tmp 13)], none⟩, ⟨(some 12), .mv (.tmp 14), none⟩, ⟨(some 15), .extract (.tmp 12) 0, none⟩, ⟨(some 16), .extract (.tmp 12) 1, none⟩, ⟨(some 2), .mv (.tmp 15), none⟩, ⟨(some 3), .mv (.tmp 16), none⟩])
 (.seq (.region [⟨(some 18), .mv (.tmp 2), none⟩, ⟨(some 19), .call 10 [(.tmp 18)], none⟩, ⟨(some 17), .mv (.tmp 19), none⟩, ⟨(some 20), .extract (.tmp 17) 0, none⟩, ⟨(some 21), .extract (.tmp 17) 1, none⟩, ⟨(some 4), .alloc [(.p (.int .i64 0)), (.p (.int .i64 0)), (.p (.int .i64 0))], none⟩, ⟨none, .store 3 (.tmp 4) (.tmp 20), none⟩, ⟨(some 5), .mv (.tmp 21), none⟩])
 (.seq (.region [⟨(some 23), .mkrow false 1 3 [(.p (.int .u8 0))] [(0, (.const (.p (.int .u8 1)))), (1, (.const (.p (.int .u8 5)))), (2, (.const (.p (.int .u8 2))))], none⟩, ⟨(some 24), .call 10 [(.tmp 23)], none⟩, ⟨(some 22), .mv (.tmp 24), none⟩, ⟨(some 25), .extract (.tmp 22) 0, none⟩, ⟨(some 26), .extract (.tmp 22) 1, none⟩, ⟨(some 6), .alloc [(.p (.int .i64 0)), (.p (.int .i64 0)), (.p (.int .i64 0))], none⟩, ⟨none, .store 3 (.tmp 6) (.tmp 25), none⟩, ⟨(some 7), .mv (.tmp 26), none⟩])
 (.seq (.region [⟨(some 27), .build [(.p (.int .i64 0)), (.p (.int .i64 0)), (.p (.str [])), (.p (.str [])), (.p (.int .i64 0)), (.p (.int .i64 0)), (.p (.str [])), (.tight []), (.tight []), (.p (.int .i64 0)), (.p (.int .i64 0)), (.p (.str [])), (.tight []), (.tight []), (.tight []), (.p (.int .i64 0)), (.p (.int .i64 0))] [(0, 1, (.const (.p (.int .i64 2))))], none⟩, ⟨(some 28), .build [(.p (.int .i64 0)), (.p (.int .i64 0)), (.p (.str [])), (.p (.str [])), (.p (.int .i64 0)), (.p (.int .i64 0)), (.p (.str [])), (.tight []), (.tight []), (.p (.int .i64 0)), (.p (.int .i64 0)), (.p (.str [])), (.tight []), (.tight []), (.tight []), (.p (.int .i64 0)), (.p (.int .i64 0))] [(0, 1, (.const (.p (.int .i64 3))))], none⟩, ⟨(some 29), .mkrow false 17 2 [(.p (.int .i64 0)), (.p (.int .i64 0)), (.p (.str [])), (.p (.str [])), (.p (.int .i64 0)), (.p (.int .i64 0)), (.p (.str [])), (.tight []), (.tight []), (.p (.int .i64 0)), (.p (.int .i64 0)), (.p (.str [])), (.tight []), (.tight []), (.tight []), (.p (.int .i64 0)), (.p (.int .i64 0))] [(0, (.tmp 27)), (1, (.tmp 28))], none⟩, ⟨(some 8), .mv (.tmp 29), none⟩])
 (.seq (.region [⟨(some 31), .mv (.tmp 8), none⟩, ⟨(some 32), .call 15 [(.const (.p (.int .i64 6))), (.const (.p (.int .i64 5))), (.const (.p (.int .i64 1))), (.tmp 31)], none⟩, ⟨(some 30), .mv (.tmp 32), none⟩, ⟨(some 33), .extract (.tmp 30) 0, none⟩, ⟨(some 34), .extract (.tmp 30) 1, none⟩, ⟨(some 9), .alloc [(.p (.int .i64 0)), (.p (.int .i64 0)), (.p (.int .i64 0))], none⟩, ⟨none, .store 3 (.tmp 9) (.tmp 33), none⟩, ⟨(some 10), .mv (.tmp 34), none⟩])
 (.seq (.region [⟨(some 35), .mv (.tmp 3), none⟩, ⟨(some 36), .bin .eql (.tmp 35) (.const (.p (.int .i64 0))), none⟩, ⟨(some 37), .mv (.tmp 36), none⟩, ⟨(some 38), .mv (.tmp 2), (some (37, true))⟩, ⟨(some 39), .len (.tmp 38), (some (37, true))⟩, ⟨(some 40), .bin .eql (.tmp 39) (.const (.p (.int .i64 7))), (some (37, true))⟩, ⟨(some 41), .pick (.tmp 37) (.tmp 40) (.const (.p (.bool false))), none⟩, ⟨(some 42), .mv (.tmp 41), none⟩, ⟨(some 43), .mv (.tmp 5), (some (42, true))⟩, ⟨(some 44), .bin .eql (.tmp 43) (.const (.p (.int .i64 0))), (some (42, true))⟩, ⟨(some 45), .pick (.tmp 42) (.tmp 44) (.const (.p (.bool false))), none⟩, ⟨(some 46), .mv (.tmp 45), none⟩, ⟨(some 47), .load true 3 (.tmp 4), (some (46, true))⟩, ⟨(some 48), .load true 3 (.tmp 1), (some (46, true))⟩, ⟨(some 49), .seq false [(0, .int), (1, .int), (2, .int)] (.tmp 47) (.tmp 48), (some (46, true))⟩, ⟨(some 50), .pick (.tmp 46) (.tmp 49) (.const (.p (.bool false))), none⟩, ⟨(some 51), .mv (.tmp 50), none⟩, ⟨(some 52), .mv (.tmp 7), (some (51, true))⟩, ⟨(some 53), .bin .eql (.tmp 52) (.const (.p (.int .i64 180))), (some (51, true))⟩, ⟨(some 54), .pick (.tmp 51) (.tmp 53) (.const (.p (.bool false))), none⟩, ⟨(some 55), .mv (.tmp 54), none⟩, ⟨(some 56), .load true 3 (.tmp 1), (some (55, true))⟩, ⟨(some 57), .call 8 [(.tmp 56)], (some (55, true))⟩, ⟨(some 58), .pick (.tmp 55) (.tmp 57) (.const (.p (.bool false))), none⟩, ⟨(some 59), .mv (.tmp 58), none⟩, ⟨(some 60), .build [(.p (.int .i64 0)), (.p (.int .i64 0)), (.p (.int .i64 0))] [], (some (59, true))⟩, ⟨(some 61), .call 8 [(.tmp 60)], (some (59, true))⟩, ⟨(some 62), .un .not (.tmp 61), (some (59, true))⟩, ⟨(some 63), .pick (.tmp 59) (.tmp 62) (.const (.p (.bool false))), none⟩, ⟨(some 64), .mv (.tmp 63), none⟩, ⟨(some 65), .load true 3 (.tmp 1), (some (64, true))⟩, ⟨(some 66), .mv (.tmp 8), (some (64, true))⟩, ⟨(some 67), .call 13 [(.tmp 65), (.const (.p (.int .i64 5))), (.const (.p (.int .i64 1))), (.tmp 66)], (some (64, true))⟩, ⟨(some 68), .bin .eql (.tmp 67) (.const (.p (.int .i64 0))), (some (64, true))⟩, ⟨(some 69), .pick (.tmp 64) (.tmp 68) (.const (.p (.bool false))), none⟩, ⟨(some 70), .mv (.tmp 69), none⟩, ⟨(some 71), .load true 3 (.tmp 1), (some (70, true))⟩, ⟨(some 72), .mv (.tmp 8), (some (70, true))⟩, ⟨(some 73), .call 13 [(.tmp 71), (.const (.p (.int .i64 7))), (.const (.p (.int .i64 9))), (.tmp 72)], (some (70, true))⟩, ⟨(some 74), .bin .eql (.tmp 73) (.const (.p (.int .i64 181))), (some (70, true))⟩, ⟨(some 75), .pick (.tmp 70) (.tmp 74) (.const (.p (.bool false))), none⟩, ⟨(some 76), .mv (.tmp 75), none⟩, ⟨(some 77), .load true 3 (.tmp 1), (some (76, true))⟩, ⟨(some 78), .call 13 [(.tmp 77), (.const (.p (.int .i64 6))), (.const (.p (.int .i64 2))), (.const (.tight []))], (some (76, true))⟩, ⟨(some 79), .bin .eql (.tmp 78) (.const (.p (.int .i64 0))), (some (76, true))⟩, ⟨(some 80), .pick (.tmp 76) (.tmp 79) (.const (.p (.bool false))), none⟩, ⟨(some 81), .mv (.tmp 80), none⟩, ⟨(some 82), .load true 3 (.tmp 1), (some (81, true))⟩, ⟨(some 83), .call 13 [(.tmp 82), (.const (.p (.int .i64 6))), (.const (.p (.int .i64 3))), (.const (.tight []))], (some (81, true))⟩, ⟨(some 84), .bin .eql (.tmp 83) (.const (.p (.int .i64 180))), (some (81, true))⟩, ⟨(some 85), .pick (.tmp 81) (.tmp 84) (.const (.p (.bool false))), none⟩, ⟨(some 86), .mv (.tmp 85), none⟩, ⟨(some 87), .mv (.tmp 10), (some (86, true))⟩, ⟨(some 88), .bin .eql (.tmp 87) (.const (.p (.int .i64 0))), (some (86, true))⟩, ⟨(some 89), .pick (.tmp 86) (.tmp 88) (.const (.p (.bool false))), none⟩, ⟨(some 90), .mv (.tmp 89), none⟩, ⟨(some 91), .load true 3 (.tmp 9), (some (90, true))⟩, ⟨(some 92), .build [(.p (.int .i64 0)), (.p (.int .i64 0)), (.p (.int .i64 0))] [(0, 1, (.const (.p (.int .i64 1)))), (1, 1, (.const (.p (.int .i64 6)))), (2, 1, (.const (.p (.int .i64 3))))], (some (90, true))⟩, ⟨(some 93), .seq false [(0, .int), (1, .int), (2, .int)] (.tmp 91) (.tmp 92), (some (90, true))⟩, ⟨(some 94), .pick (.tmp 90) (.tmp 93) (.const (.p (.bool false))), none⟩, ⟨(some 0), .mv (.tmp 94), none⟩])
 (.ret [true, false, false, false, false, false, false, false, false, false, false, false, false, false, false, false, false, false, false, false, false, false, false, false, false, false, false, false, false, false, false, false, false, false, false, false, false, false, false, false, false, false, false, false, false, false, false, false, false, false, false, false, false, false, false, false, false, false, false, false, false, false, false, false, false, false, false, false, false, false, false, false, false, false, false, false, false, false, false, false, false, false, false, false, false, false, false, false, false, false, false, false, false, false, false]))))))))⟩
theorem cf7 : compF Try.prog (fun _ _ => false) Try.f7 = some lf7 := by kernel_rfl
theorem fr7 : FR Try.prog 7 lf7 := compF_sound (by kernel_rfl) Try.func7 (by kernel_rfl) cf7

def lf8 : LFn := ⟨31, [.tmp 2],
 .seq (.region [⟨(some 1), .box (.tmp 0), none⟩, ⟨(some 2), .mv (.const (.p (.bool false))), none⟩])
 (.seq (.block 0 [false, false, false, false, false, false, false, false, false, false, false, false, false, false, false, false, false, false, false, false, false, false, false, false, false, false, false, false, false, false, false] (.seq (.seq (.region [⟨(some 4), .fieldAddr 0 (.tmp 1), none⟩, ⟨(some 5), .load false 1 (.tmp 4), none⟩, ⟨(some 6), .bin .neq (.tmp 5) (.const (.p (.int .i64 1))), none⟩, ⟨(some 7), .mv (.tmp 6), none⟩, ⟨(some 8), .fieldAddr 0 (.tmp 1), (some (7, true))⟩, ⟨(some 9), .load false 1 (.tmp 8), (some (7, true))⟩, ⟨(some 10), .bin .neq (.tmp 9) (.const (.p (.int .i64 2))), (some (7, true))⟩, ⟨(some 11), .pick (.tmp 7) (.tmp 10) (.const (.p (.bool false))), none⟩, ⟨(some 3), .mv (.tmp 11), none⟩])
 (.cond (.tmp 3) (.skip)
 (.region [⟨(some 12), .fieldAddr 1 (.tmp 1), none⟩, ⟨(some 13), .load false 1 (.tmp 12), none⟩, ⟨(some 14), .fieldAddr 2 (.tmp 1), none⟩, ⟨(some 15), .load false 1 (.tmp 14), none⟩, ⟨(some 16), .mkrow false 1 2 [(.p (.int .i64 0))] [(0, (.tmp 13)), (1, (.tmp 15))], none⟩, ⟨(some 17), .call 16 [(.tmp 16)], none⟩, ⟨(some 18), .un .not (.tmp 17), none⟩, ⟨(some 3), .mv (.tmp 18), none⟩])))
 (.cond (.tmp 3) (.seq (.region [⟨(some 2), .mv (.const (.p (.bool false))), none⟩])
 (.ret [false, false, true, false, false, false, false, false, false, false, false, false, false, false, false, false, false, false, false, false, false, false, false, false, false, false, false, false, false, false, false]))
 (.seq (.region [⟨(some 20), .fieldAddr 1 (.tmp 1), none⟩, ⟨(some 21), .load false 1 (.tmp 20), none⟩, ⟨(some 22), .bin .eql (.tmp 21) (.const (.p (.int .i64 0))), none⟩, ⟨(some 23), .mv (.tmp 22), none⟩, ⟨(some 24), .fieldAddr 2 (.tmp 1), (some (23, false))⟩, ⟨(some 25), .load false 1 (.tmp 24), (some (23, false))⟩, ⟨(some 26), .bin .eql (.tmp 25) (.const (.p (.int .i64 0))), (some (23, false))⟩, ⟨(some 27), .pick (.tmp 23) (.const (.p (.bool true))) (.tmp 26), none⟩, ⟨(some 19), .mv (.tmp 27), none⟩])
 (.cond (.tmp 19) (.seq (.region [⟨(some 28), .load true 3 (.tmp 1), none⟩, ⟨(some 29), .build [(.p (.int .i64 0)), (.p (.int .i64 0)), (.p (.int .i64 0))] [(0, 1, (.const (.p (.int .i64 1))))], none⟩, ⟨(some 30), .seq false [(0, .int), (1, .int), (2, .int)] (.tmp 28) (.tmp 29), none⟩, ⟨(some 2), .mv (.tmp 30), none⟩])
 (.ret [false, false, true, false, false, false, false, false, false, false, false, false, false, false, false, false, false, false, false, false, false, false, false, false, false, false, false, false, false, false, false]))
 (.skip))))))
 (.seq (.region [⟨(some 2), .mv (.const (.p (.bool true))), none⟩])
 (.ret [false, false, true, false, false, false, false, false, false, false, false, false, false, false, false, false, false, false, false, false, false, false, false, false, false, false, false, false, false, false, false])))⟩
theorem cf8 : compF Try.prog (fun _ _ => false) Try.f8 = some lf8 := by kernel_rfl
theorem fr8 : FR Try.prog 8 lf8 := compF_sound (by kernel_rfl) Try.func8 (by kernel_rfl) cf8

def lf9 : LFn := ⟨48, [.tmp 2],
 .seq (.region [⟨(some 1), .box (.tmp 0), none⟩, ⟨(some 2), .mv (.const (.p (.bool false))), none⟩])
 (.seq (.seq (.region [⟨(some 3), .fieldAddr 0 (.tmp 1), none⟩, ⟨(some 4), .load false 1 (.tmp 3), none⟩, ⟨(some 5), .bin .neq (.tmp 4) (.const (.p (.int .i64 1))), none⟩, ⟨(some 6), .mv (.tmp 5), none⟩, ⟨(some 7), .fieldAddr 0 (.tmp 1), (some (6, true))⟩, ⟨(some 8), .load false 1 (.tmp 7), (some (6, true))⟩, ⟨(some 9), .bin .neq (.tmp 8) (.const (.p (.int .i64 2))), (some (6, true))⟩, ⟨(some 10), .pick (.tmp 6) (.tmp 9) (.const (.p (.bool false))), none⟩, ⟨(some 11), .mv (.tmp 10), none⟩, ⟨(some 12), .fieldAddr 1 (.tmp 1), (some (11, false))⟩, ⟨(some 13), .load false 1 (.tmp 12), (some (11, false))⟩, ⟨(some 14), .bin .lss (.tmp 13) (.const (.p (.int .i64 0))), (some (11, false))⟩, ⟨(some 15), .pick (.tmp 11) (.const (.p (.bool true))) (.tmp 14), none⟩, ⟨(some 16), .mv (.tmp 15), none⟩, ⟨(some 17), .fieldAddr 1 (.tmp 1), (some (16, false))⟩, ⟨(some 18), .load false 1 (.tmp 17), (some (16, false))⟩, ⟨(some 19), .bin .gtr (.tmp 18) (.const (.p (.int .i64 1099511627776))), (some (16, false))⟩, ⟨(some 20), .pick (.tmp 16) (.const (.p (.bool true))) (.tmp 19), none⟩, ⟨(some 21), .mv (.tmp 20), none⟩, ⟨(some 22), .fieldAddr 2 (.tmp 1), (some (21, false))⟩, ⟨(some 23), .load false 1 (.tmp 22), (some (21, false))⟩, ⟨(some 24), .bin .lss (.tmp 23) (.const (.p (.int .i64 0))), (some (21, false))⟩, ⟨(some 25), .pick (.tmp 21) (.const (.p (.bool true))) (.tmp 24), none⟩, ⟨(some 26), .mv (.tmp 25), none⟩, ⟨(some 27), .fieldAddr 2 (.tmp 1), (some (26, false))⟩, ⟨(some 28), .load false 1 (.tmp 27), (some (26, false))⟩, ⟨(some 29), .bin .gtr (.tmp 28) (.const (.p (.int .i64 1099511627776))), (some (26, false))⟩, ⟨(some 30), .pick (.tmp 26) (.const (.p (.bool true))) (.tmp 29), none⟩])
 (.cond (.tmp 30) (.seq (.region [⟨(some 2), .mv (.const (.p (.bool false))), none⟩])
 (.ret [false, false, true, false, false, false, false, false, false, false, false, false, false, false, false, false, false, false, false, false, false, false, false, false, false, false, false, false, false, false, false, false, false, false, false, false, false, false, false, false, false, false, false, false, false, false, false, false]))
 (.skip)))
 (.seq (.region [⟨(some 31), .fieldAddr 1 (.tmp 1), none⟩, ⟨(some 32), .load false 1 (.tmp 31), none⟩, ⟨(some 33), .bin .eql (.tmp 32) (.const (.p (.int .i64 0))), none⟩, ⟨(some 34), .fieldAddr 2 (.tmp 1), none⟩, ⟨(some 35), .load false 1 (.tmp 34), none⟩, ⟨(some 36), .bin .eql (.tmp 35) (.const (.p (.int .i64 0))), none⟩, ⟨(some 37), .beq false (.tmp 33) (.tmp 36), none⟩, ⟨(some 38), .mv (.tmp 37), none⟩, ⟨(some 39), .fieldAddr 0 (.tmp 1), (some (38, true))⟩, ⟨(some 40), .load false 1 (.tmp 39), (some (38, true))⟩, ⟨(some 41), .bin .eql (.tmp 40) (.const (.p (.int .i64 1))), (some (38, true))⟩, ⟨(some 42), .mv (.tmp 41), (some (38, true))⟩, ⟨(some 43), .fieldAddr 1 (.tmp 1), (some (42, false))⟩, ⟨(some 44), .load false 1 (.tmp 43), (some (42, false))⟩, ⟨(some 45), .bin .gtr (.tmp 44) (.const (.p (.int .i64 0))), (some (42, false))⟩, ⟨(some 46), .pick (.tmp 42) (.const (.p (.bool true))) (.tmp 45), (some (38, true))⟩, ⟨(some 47), .pick (.tmp 38) (.tmp 46) (.const (.p (.bool false))), none⟩, ⟨(some 2), .mv (.tmp 47), none⟩])
 (.ret [false, false, true, false, false, false, false, false, false, false, false, false, false, false, false, false, false, false, false, false, false, false, false, false, false, false, false, false, false, false, false, false, false, false, false, false, false, false, false, false, false, false, false, false, false, false, false, false])))⟩
theorem cf9 : compF Try.prog (fun _ _ => false) Try.f9 = some lf9 := by kernel_rfl
theorem fr9 : FR Try.prog 9 lf9 := compF_sound (by kernel_rfl) Try.func9 (by kernel_rfl) cf9

def lf10 : LFn := ⟨31, [.cell 2 true 3, .tmp 3],
 .seq (.region [⟨(some 2), .alloc [(.p (.int .i64 0)), (.p (.int .i64 0)), (.p (.int .i64 0))], none⟩, ⟨(some 3), .mv (.const (.p (.int .i64 0))), none⟩])
 (.seq (.region [⟨(some 6), .mv (.tmp 0), none⟩, ⟨(some 7), .call 17 [(.tmp 6)], none⟩, ⟨(some 4), .mv (.tmp 7), none⟩])
 (.seq (.region [⟨(some 8), .mv (.tmp 4), none⟩, ⟨(some 9), .call 18 [(.tmp 8)], none⟩, ⟨(some 10), .mv (.tmp 4), none⟩, ⟨(some 11), .call 19 [(.tmp 10), (.const (.p (.int .i64 1099511627776)))], none⟩, ⟨(some 12), .mv (.tmp 4), none⟩, ⟨(some 13), .call 19 [(.tmp 12), (.const (.p (.int .i64 1099511627776)))], none⟩, ⟨(some 14), .build [(.p (.int .i64 0)), (.p (.int .i64 0)), (.p (.int .i64 0))] [(0, 1, (.tmp 9)), (1, 1, (.tmp 11)), (2, 1, (.tmp 13))], none⟩, ⟨(some 5), .alloc [(.p (.int .i64 0)), (.p (.int .i64 0)), (.p (.int .i64 0))], none⟩, ⟨none, .store 3 (.tmp 5) (.tmp 14), none⟩])
 (.seq (.seq (.region [⟨(some 15), .mv (.tmp 4), none⟩, ⟨(some 16), .call 20 [(.tmp 15)], none⟩, ⟨(some 17), .mv (.tmp 16), none⟩, ⟨(some 18), .load true 3 (.tmp 5), (some (17, false))⟩, ⟨(some 19), .call 8 [(.tmp 18)], (some (17, false))⟩, ⟨(some 20), .un .not (.tmp 19), (some (17, false))⟩, ⟨(some 21), .pick (.tmp 17) (.const (.p (.bool true))) (.tmp 20), none⟩, ⟨(some 22), .mv (.tmp 21), none⟩, ⟨(some 23), .load true 3 (.tmp 5), (some (22, false))⟩, ⟨(some 24), .call 14 [(.tmp 23)], (some (22, false))⟩, ⟨(some 25), .mv (.tmp 0), (some (22, false))⟩, ⟨(some 26), .call 21 [(.tmp 24), (.tmp 25)], (some (22, false))⟩, ⟨(some 27), .un .not (.tmp 26), (some (22, false))⟩, ⟨(some 28), .pick (.tmp 22) (.const (.p (.bool true))) (.tmp 27), none⟩])
 (.cond (.tmp 28) (.seq (.region [⟨(some 29), .build [(.p (.int .i64 0)), (.p (.int .i64 0)), (.p (.int .i64 0))] [], none⟩, ⟨none, .store 3 (.tmp 2) (.tmp 29), none⟩, ⟨(some 3), .mv (.const (.p (.int .i64 180))), none⟩])
 (.ret [false, false, true, true, false, false, false, false, false, false, false, false, false, false, false, false, false, false, false, false, false, false, false, false, false, false, false, false, false, false, false]))
 (.skip)))
 (.seq (.region [⟨(some 30), .load true 3 (.tmp 5), none⟩, ⟨none, .store 3 (.tmp 2) (.tmp 30), none⟩, ⟨(some 3), .mv (.const (.p (.int .i64 0))), none⟩])
 (.ret [false, false, true, true, false, false, false, false, false, false, false, false, false, false, false, false, false, false, false, false, false, false, false, false, false, false, false, false, false, false, false])))))⟩
theorem cf10 : compF Try.prog (fun _ _ => false) Try.f10 = some lf10 := by kernel_rfl
theorem fr10 : FR Try.prog 10 lf10 := compF_sound (by kernel_rfl) Try.func10 (by kernel_rfl) cf10

def lf11 : LFn := ⟨33, [.tmp 2],
 .seq (.region [⟨(some 1), .box (.tmp 0), none⟩, ⟨(some 2), .mv (.const (.tight [])), none⟩])
 (.seq (.drawn [⟨.h, 0, [], ⟨(some 5), .fieldAddr 0 (.tmp 1), none⟩⟩, ⟨.h, 1, [], ⟨(some 6), .load false 1 (.tmp 5), none⟩⟩, ⟨.h, 2, [], ⟨(some 7), .cv (.int .u8) (.tmp 6), none⟩⟩, ⟨.h, 3, [], ⟨(some 8), .mkrow false 1 1 [(.p (.int .u8 0))] [(0, (.tmp 7))], none⟩⟩, ⟨.h, 4, [], ⟨(some 9), .fieldAddr 1 (.tmp 1), none⟩⟩, ⟨.h, 5, [], ⟨(some 10), .load false 1 (.tmp 9), none⟩⟩, ⟨.h, 8, [], ⟨(some 13), .fieldAddr 2 (.tmp 1), none⟩⟩, ⟨.h, 9, [], ⟨(some 14), .load false 1 (.tmp 13), none⟩⟩, ⟨.c, 6, [4, 5], ⟨(some 11), .call 22 [(.tmp 10)], none⟩⟩, ⟨.c, 7, [0, 1, 2, 3, 4, 5], ⟨(some 12), .append false 1 1 (.tmp 8) (.tmp 11), none⟩⟩, ⟨.c, 10, [0, 1, 2, 3, 4, 5, 8, 9], ⟨(some 15), .call 22 [(.tmp 14)], none⟩⟩, ⟨.c, 11, [0, 1, 2, 3, 4, 5, 8, 9], ⟨(some 16), .append false 1 1 (.tmp 12) (.tmp 15), none⟩⟩, ⟨.h, 12, [], ⟨(some 3), .mv (.tmp 16), none⟩⟩])
 (.seq (.region [⟨(some 17), .mv (.tmp 3), none⟩, ⟨(some 18), .call 23 [(.tmp 17)], none⟩, ⟨(some 4), .mv (.tmp 18), none⟩])
 (.seq (.region [⟨(some 19), .mv (.tmp 3), none⟩, ⟨(some 20), .mv (.tmp 4), none⟩, ⟨(some 21), .cv (.int .u8) (.tmp 20), none⟩, ⟨(some 22), .mv (.tmp 4), none⟩, ⟨(some 23), .bin .shr (.tmp 22) (.const (.p (.int .u64 8))), none⟩, ⟨(some 24), .cv (.int .u8) (.tmp 23), none⟩, ⟨(some 25), .mv (.tmp 4), none⟩, ⟨(some 26), .bin .shr (.tmp 25) (.const (.p (.int .u64 16))), none⟩, ⟨(some 27), .cv (.int .u8) (.tmp 26), none⟩, ⟨(some 28), .mv (.tmp 4), none⟩, ⟨(some 29), .bin .shr (.tmp 28) (.const (.p (.int .u64 24))), none⟩, ⟨(some 30), .cv (.int .u8) (.tmp 29), none⟩, ⟨(some 31), .mkrow false 1 4 [(.p (.int .u8 0))] [(0, (.tmp 21)), (1, (.tmp 24)), (2, (.tmp 27)), (3, (.tmp 30))], none⟩, ⟨(some 32), .append false 1 1 (.tmp 19) (.tmp 31), none⟩, ⟨(some 2), .mv (.tmp 32), none⟩])
 (.ret [false, false, true, false, false, false, false, false, false, false, false, false, false, false, false, false, false, false, false, false, false, false, false, false, false, false, false, false, false, false, false, false, false]))))⟩
theorem cf11 : compF Try.prog (fun _ _ => false) Try.f11 = some lf11 := by kernel_rfl
theorem fr11 : FR Try.prog 11 lf11 := compF_sound (by kernel_rfl) Try.func11 (by kernel_rfl) cf11

def lf12 : LFn := ⟨37, [.cell 2 true 3, .tmp 3],
 .seq (.region [⟨(some 2), .alloc [(.p (.int .i64 0)), (.p (.int .i64 0)), (.p (.int .i64 0))], none⟩, ⟨(some 3), .mv (.const (.p (.bool false))), none⟩])
 (.seq (.region [⟨(some 6), .mv (.tmp 0), none⟩, ⟨(some 7), .build [(.tight []), (.p (.bool false))] [(0, 1, (.tmp 6))], none⟩, ⟨(some 8), .box (.tmp 7), none⟩, ⟨(some 4), .mv (.tmp 8), none⟩])
 (.seq (.region [⟨(some 9), .mv (.tmp 4), none⟩, ⟨(some 10), .call 24 [(.tmp 9)], none⟩, ⟨(some 11), .build [(.p (.int .i64 0)), (.p (.int .i64 0)), (.p (.int .i64 0))] [(0, 1, (.tmp 10))], none⟩, ⟨(some 5), .alloc [(.p (.int .i64 0)), (.p (.int .i64 0)), (.p (.int .i64 0))], none⟩, ⟨none, .store 3 (.tmp 5) (.tmp 11), none⟩])
 (.seq (.region [⟨(some 12), .mv (.tmp 4), none⟩, ⟨(some 13), .call 25 [(.tmp 12), (.const (.p (.int .i64 1099511627776)))], none⟩, ⟨(some 14), .fieldAddr 1 (.tmp 5), none⟩, ⟨none, .store 1 (.tmp 14) (.tmp 13), none⟩])
 (.seq (.region [⟨(some 15), .mv (.tmp 4), none⟩, ⟨(some 16), .call 25 [(.tmp 15), (.const (.p (.int .i64 1099511627776)))], none⟩, ⟨(some 17), .fieldAddr 2 (.tmp 5), none⟩, ⟨none, .store 1 (.tmp 17) (.tmp 16), none⟩])
 (.seq (.seq (.drawn [⟨.h, 0, [], ⟨(some 18), .mv (.tmp 4), none⟩⟩, ⟨.h, 1, [], ⟨(some 19), .nilChk (.tmp 18), none⟩⟩, ⟨.h, 2, [], ⟨(some 20), .fieldAddr 1 (.tmp 19), none⟩⟩, ⟨.h, 3, [], ⟨(some 21), .load false 1 (.tmp 20), none⟩⟩, ⟨.h, 4, [], ⟨(some 22), .mv (.tmp 21), none⟩⟩, ⟨.h, 5, [], ⟨(some 23), .load true 3 (.tmp 5), (some (22, false))⟩⟩, ⟨.c, 6, [0, 1, 2, 3, 4, 5], ⟨(some 24), .call 9 [(.tmp 23)], (some (22, false))⟩⟩, ⟨.h, 7, [], ⟨(some 25), .un .not (.tmp 24), (some (22, false))⟩⟩, ⟨.h, 8, [], ⟨(some 26), .pick (.tmp 22) (.const (.p (.bool true))) (.tmp 25), none⟩⟩, ⟨.h, 9, [], ⟨(some 27), .mv (.tmp 26), none⟩⟩, ⟨.h, 10, [], ⟨(some 28), .load true 3 (.tmp 5), (some (27, false))⟩⟩, ⟨.h, 13, [], ⟨(some 31), .mv (.tmp 0), (some (27, false))⟩⟩, ⟨.h, 14, [], ⟨(some 32), .cv .b2s (.tmp 31), (some (27, false))⟩⟩, ⟨.c, 11, [0, 1, 2, 3, 4, 5, 7, 8, 9, 10], ⟨(some 29), .call 11 [(.tmp 28)], (some (27, false))⟩⟩, ⟨.h, 12, [], ⟨(some 30), .cv .b2s (.tmp 29), (some (27, false))⟩⟩, ⟨.h, 15, [], ⟨(some 33), .bin .neq (.tmp 30) (.tmp 32), (some (27, false))⟩⟩, ⟨.h, 16, [], ⟨(some 34), .pick (.tmp 27) (.const (.p (.bool true))) (.tmp 33), none⟩⟩])
 (.cond (.tmp 34) (.seq (.region [⟨(some 35), .build [(.p (.int .i64 0)), (.p (.int .i64 0)), (.p (.int .i64 0))] [], none⟩, ⟨none, .store 3 (.tmp 2) (.tmp 35), none⟩, ⟨(some 3), .mv (.const (.p (.bool false))), none⟩])
 (.ret [false, false, true, true, false, false, false, false, false, false, false, false, false, false, false, false, false, false, false, false, false, false, false, false, false, false, false, false, false, false, false, false, false, false, false, false, false]))
 (.skip)))
 (.seq (.region [⟨(some 36), .load true 3 (.tmp 5), none⟩, ⟨none, .store 3 (.tmp 2) (.tmp 36), none⟩, ⟨(some 3), .mv (.const (.p (.bool true))), none⟩])
 (.ret [false, false, true, true, false, false, false, false, false, false, false, false, false, false, false, false, false, false, false, false, false, false, false, false, false, false, false, false, false, false, false, false, false, false, false, false, false])))))))⟩
theorem cf12 : compF Try.prog (fun _ _ => false) Try.f12 = some lf12 := by kernel_rfl
theorem fr12 : FR Try.prog 12 lf12 := compF_sound (by kernel_rfl) Try.func12 (by kernel_rfl) cf12

def lf13 : LFn := ⟨41, [.tmp 8],
 .seq (.region [⟨(some 4), .box (.tmp 0), none⟩, ⟨(some 8), .mv (.const (.p (.int .i64 0))), none⟩])
 (.seq (.seq (.region [⟨(some 11), .mv (.tmp 1), none⟩, ⟨(some 12), .bin .geq (.tmp 11) (.const (.p (.int .i64 1))), none⟩, ⟨(some 13), .mv (.tmp 12), none⟩, ⟨(some 14), .load true 3 (.tmp 4), (some (13, true))⟩, ⟨(some 15), .call 8 [(.tmp 14)], (some (13, true))⟩, ⟨(some 16), .un .not (.tmp 15), (some (13, true))⟩, ⟨(some 17), .pick (.tmp 13) (.tmp 16) (.const (.p (.bool false))), none⟩])
 (.cond (.tmp 17) (.seq (.region [⟨(some 8), .mv (.const (.p (.int .i64 180))), none⟩])
 (.ret [false, false, false, false, false, false, false, false, true, false, false, false, false, false, false, false, false, false, false, false, false, false, false, false, false, false, false, false, false, false, false, false, false, false, false, false, false, false, false, false, false]))
 (.skip)))
 (.seq (.region [⟨(some 19), .fieldAddr 1 (.tmp 4), none⟩, ⟨(some 20), .load false 1 (.tmp 19), none⟩, ⟨(some 21), .mv (.tmp 1), none⟩, ⟨(some 22), .mv (.tmp 2), none⟩, ⟨(some 23), .mv (.tmp 3), none⟩, ⟨(some 24), .call 15 [(.tmp 20), (.tmp 21), (.tmp 22), (.tmp 23)], none⟩, ⟨(some 18), .mv (.tmp 24), none⟩, ⟨(some 25), .extract (.tmp 18) 0, none⟩, ⟨(some 26), .extract (.tmp 18) 1, none⟩, ⟨(some 9), .alloc [(.p (.int .i64 0)), (.p (.int .i64 0)), (.p (.int .i64 0))], none⟩, ⟨none, .store 3 (.tmp 9) (.tmp 25), none⟩, ⟨(some 10), .mv (.tmp 26), none⟩])
 (.seq (.block 0 [false, false, false, false, false, false, false, false, false, false, true, false, false, false, false, false, false, false, false, false, false, false, false, false, false, false, false, false, false, false, false, false, false, false, false, false, false, false, false, false, false] (.seq (.region [⟨(some 28), .mv (.tmp 10), none⟩, ⟨(some 29), .bin .eql (.tmp 28) (.const (.p (.int .i64 4))), none⟩, ⟨(some 27), .mv (.tmp 29), none⟩])
 (.cond (.tmp 27) (.seq (.region [⟨(some 8), .mv (.const (.p (.int .i64 180))), none⟩])
 (.ret [false, false, false, false, false, false, false, false, true, false, false, false, false, false, false, false, false, false, false, false, false, false, false, false, false, false, false, false, false, false, false, false, false, false, false, false, false, false, false, false, false]))
 (.seq (.region [⟨(some 31), .mv (.tmp 10), none⟩, ⟨(some 32), .bin .eql (.tmp 31) (.const (.p (.int .i64 0))), none⟩, ⟨(some 33), .mv (.tmp 32), none⟩, ⟨(some 34), .fieldAddr 2 (.tmp 9), (some (33, true))⟩, ⟨(some 35), .load false 1 (.tmp 34), (some (33, true))⟩, ⟨(some 36), .fieldAddr 2 (.tmp 4), (some (33, true))⟩, ⟨(some 37), .load false 1 (.tmp 36), (some (33, true))⟩, ⟨(some 38), .bin .neq (.tmp 35) (.tmp 37), (some (33, true))⟩, ⟨(some 39), .pick (.tmp 33) (.tmp 38) (.const (.p (.bool false))), none⟩, ⟨(some 30), .mv (.tmp 39), none⟩])
 (.cond (.tmp 30) (.seq (.region [⟨(some 8), .mv (.const (.p (.int .i64 180))), none⟩])
 (.ret [false, false, false, false, false, false, false, false, true, false, false, false, false, false, false, false, false, false, false, false, false, false, false, false, false, false, false, false, false, false, false, false, false, false, false, false, false, false, false, false, false]))
 (.skip))))))
 (.seq (.region [⟨(some 40), .mv (.tmp 10), none⟩, ⟨(some 8), .mv (.tmp 40), none⟩])
 (.ret [false, false, false, false, false, false, false, false, true, false, false, false, false, false, false, false, false, false, false, false, false, false, false, false, false, false, false, false, false, false, false, false, false, false, false, false, false, false, false, false, false])))))⟩
theorem cf13 : compF Try.prog (fun _ _ => false) Try.f13 = some lf13 := by kernel_rfl
theorem fr13 : FR Try.prog 13 lf13 := compF_sound (by kernel_rfl) Try.func13 (by kernel_rfl) cf13

def lf14 : LFn := ⟨43, [.tmp 2],
 .seq (.region [⟨(some 1), .box (.tmp 0), none⟩, ⟨(some 2), .mv (.const (.tight [])), none⟩])
 (.seq (.region [⟨(some 9), .fieldAddr 0 (.tmp 1), none⟩, ⟨(some 10), .load false 1 (.tmp 9), none⟩, ⟨(some 11), .cv (.int .u8) (.tmp 10), none⟩, ⟨(some 12), .mkrow false 1 1 [(.p (.int .u8 0))] [(0, (.tmp 11))], none⟩, ⟨(some 3), .mv (.tmp 12), none⟩])
 (.seq (.seq (.region [⟨(some 13), .fieldAddr 1 (.tmp 1), none⟩, ⟨(some 14), .load false 1 (.tmp 13), none⟩, ⟨(some 15), .fieldAddr 2 (.tmp 1), none⟩, ⟨(some 16), .load false 1 (.tmp 15), none⟩, ⟨(some 17), .build [(.p (.int .i64 0)), (.p (.int .i64 0))] [(0, 1, (.tmp 14)), (1, 1, (.tmp 16))], none⟩, ⟨(some 18), .mv (.const (.p (.int .i64 0))), none⟩])
 (.block 0 [false, false, false, true, false, false, false, false, false, false, false, false, false, false, false, false, false, false, false, false, false, false, false, false, false, false, false, false, false, false, false, false, false, false, false, false, false, false, false, false, false, false, false] (.loop [false, false, false, true, false, false, false, false, false, false, false, false, false, false, false, false, false, true, true, false, false, false, false, false, false, false, false, false, false, false, false, false, false, false, false, false, false, false, false, false, false, false, false] (.seq (.region [⟨(some 19), .bin .lss (.tmp 18) (.const (.p (.int .i64 2))), none⟩])
 (.seq (.cond (.tmp 19) (.skip)
 (.exit 0 [false, false, false, true, false, false, false, false, false, false, false, false, false, false, false, false, false, false, false, false, false, false, false, false, false, false, false, false, false, false, false, false, false, false, false, false, false, false, false, false, false, false, false]))
 (.seq (.block 1 [false, false, false, true, false, false, false, false, false, false, false, false, false, false, false, false, false, true, true, false, false, false, false, false, false, false, false, false, false, false, false, false, false, false, false, false, false, false, false, false, false, false, false] (.seq (.region [⟨(some 20), .arrIndex false 2 1 (.tmp 17) (.tmp 18), none⟩, ⟨(some 5), .mv (.tmp 20), none⟩])
 (.seq (.region [⟨(some 22), .mv (.tmp 5), none⟩, ⟨(some 23), .call 26 [(.tmp 22)], none⟩, ⟨(some 21), .mv (.tmp 23), none⟩, ⟨(some 24), .extract (.tmp 21) 0, none⟩, ⟨(some 25), .extract (.tmp 21) 1, none⟩, ⟨(some 6), .mv (.tmp 24), none⟩, ⟨(some 7), .mv (.tmp 25), none⟩])
 (.region [⟨(some 26), .mv (.tmp 3), none⟩, ⟨(some 27), .mv (.tmp 6), none⟩, ⟨(some 28), .append false 1 1 (.tmp 26) (.tmp 27), none⟩, ⟨(some 3), .mv (.tmp 28), none⟩]))))
 (.region [⟨(some 29), .bin .add (.tmp 18) (.const (.p (.int .i64 1))), none⟩, ⟨(some 18), .mv (.tmp 29), none⟩])))))))
 (.seq (.region [⟨(some 30), .mv (.tmp 3), none⟩, ⟨(some 31), .call 27 [(.tmp 30)], none⟩, ⟨(some 8), .mv (.tmp 31), none⟩])
 (.seq (.seq (.region [⟨(some 32), .mv (.const (.p (.int .i64 0))), none⟩])
 (.block 2 [false, false, false, true, false, false, false, false, false, false, false, false, false, false, false, false, false, false, false, false, false, false, false, false, false, false, false, false, false, false, false, false, false, false, false, false, false, false, false, false, false, false, false] (.loop [false, false, false, true, false, false, false, false, true, false, false, false, false, false, false, false, false, false, false, false, false, false, false, false, false, false, false, false, false, false, false, false, true, false, false, false, false, false, false, false, false, false, false] (.seq (.region [⟨(some 33), .bin .lss (.tmp 32) (.const (.p (.int .i64 4))), none⟩])
 (.seq (.cond (.tmp 33) (.skip)
 (.exit 2 [false, false, false, true, false, false, false, false, false, false, false, false, false, false, false, false, false, false, false, false, false, false, false, false, false, false, false, false, false, false, false, false, false, false, false, false, false, false, false, false, false, false, false]))
 (.seq (.block 3 [false, false, false, true, false, false, false, false, true, false, false, false, false, false, false, false, false, false, false, false, false, false, false, false, false, false, false, false, false, false, false, false, true, false, false, false, false, false, false, false, false, false, false] (.seq (.region [⟨(some 34), .mv (.tmp 3), none⟩, ⟨(some 35), .mv (.tmp 8), none⟩, ⟨(some 36), .cv (.int .u8) (.tmp 35), none⟩, ⟨(some 37), .mkrow false 1 1 [(.p (.int .u8 0))] [(0, (.tmp 36))], none⟩, ⟨(some 38), .append false 1 1 (.tmp 34) (.tmp 37), none⟩, ⟨(some 3), .mv (.tmp 38), none⟩])
 (.region [⟨(some 39), .mv (.tmp 8), none⟩, ⟨(some 40), .bin .shr (.tmp 39) (.const (.p (.int .u64 8))), none⟩, ⟨(some 8), .mv (.tmp 40), none⟩])))
 (.region [⟨(some 41), .bin .add (.tmp 32) (.const (.p (.int .i64 1))), none⟩, ⟨(some 32), .mv (.tmp 41), none⟩])))))))
 (.seq (.region [⟨(some 42), .mv (.tmp 3), none⟩, ⟨(some 2), .mv (.tmp 42), none⟩])
 (.ret [false, false, true, false, false, false, false, false, false, false, false, false, false, false, false, false, false, false, false, false, false, false, false, false, false, false, false, false, false, false, false, false, false, false, false, false, false, false, false, false, false, false, false]))))))⟩
theorem cf14 : compF Try.prog (fun _ _ => false) Try.f14 = some lf14 := by kernel_rfl
theorem fr14 : FR Try.prog 14 lf14 := compF_sound (by kernel_rfl) Try.func14 (by kernel_rfl) cf14

def lf15 : LFn := ⟨47, [.cell 8 true 3, .tmp 9],
 .seq (.region [⟨(some 8), .alloc [(.p (.int .i64 0)), (.p (.int .i64 0)), (.p (.int .i64 0))], none⟩, ⟨(some 9), .mv (.const (.p (.int .i64 0))), none⟩])
 (.seq (.region [⟨(some 11), .mv (.tmp 0), none⟩, ⟨(some 12), .mv (.tmp 2), none⟩, ⟨(some 13), .build [(.p (.int .i64 0)), (.p (.int .i64 0)), (.p (.int .i64 0))] [(0, 1, (.const (.p (.int .i64 1)))), (1, 1, (.tmp 11)), (2, 1, (.tmp 12))], none⟩, ⟨(some 10), .alloc [(.p (.int .i64 0)), (.p (.int .i64 0)), (.p (.int .i64 0))], none⟩, ⟨none, .store 3 (.tmp 10) (.tmp 13), none⟩])
 (.seq (.block 0 [true, true, false, true, false, false, false, false, true, false, true, false, false, false, false, false, false, false, false, false, false, false, false, false, false, false, false, false, false, false, false, false, false, false, false, false, false, false, false, false, false, false, false, false, false, false, false] (.seq (.region [⟨(some 15), .mv (.tmp 1), none⟩, ⟨(some 16), .bin .lss (.tmp 15) (.const (.p (.int .i64 1))), none⟩, ⟨(some 14), .mv (.tmp 16), none⟩])
 (.cond (.tmp 14) (.seq (.region [⟨(some 17), .build [(.p (.int .i64 0)), (.p (.int .i64 0)), (.p (.int .i64 0))] [], none⟩, ⟨none, .store 3 (.tmp 8) (.tmp 17), none⟩, ⟨(some 9), .mv (.const (.p (.int .i64 1))), none⟩])
 (.ret [false, false, false, false, false, false, false, false, true, true, false, false, false, false, false, false, false, false, false, false, false, false, false, false, false, false, false, false, false, false, false, false, false, false, false, false, false, false, false, false, false, false, false, false, false, false, false]))
 (.seq (.region [⟨(some 19), .mv (.tmp 0), none⟩, ⟨(some 20), .mv (.tmp 1), none⟩, ⟨(some 21), .bin .sub (.tmp 20) (.const (.p (.int .i64 1))), none⟩, ⟨(some 22), .bin .lss (.tmp 19) (.tmp 21), none⟩, ⟨(some 18), .mv (.tmp 22), none⟩])
 (.cond (.tmp 18) (.seq (.region [⟨(some 23), .build [(.p (.int .i64 0)), (.p (.int .i64 0)), (.p (.int .i64 0))] [], none⟩, ⟨none, .store 3 (.tmp 8) (.tmp 23), none⟩, ⟨(some 9), .mv (.const (.p (.int .i64 181))), none⟩])
 (.ret [false, false, false, false, false, false, false, false, true, true, false, false, false, false, false, false, false, false, false, false, false, false, false, false, false, false, false, false, false, false, false, false, false, false, false, false, false, false, false, false, false, false, false, false, false, false, false]))
 (.seq (.region [⟨(some 25), .mv (.tmp 0), none⟩, ⟨(some 26), .mv (.tmp 1), none⟩, ⟨(some 27), .bin .sub (.tmp 26) (.const (.p (.int .i64 1))), none⟩, ⟨(some 28), .bin .eql (.tmp 25) (.tmp 27), none⟩, ⟨(some 24), .mv (.tmp 28), none⟩])
 (.cond (.tmp 24) (.seq (.region [⟨(some 29), .load true 3 (.tmp 10), none⟩, ⟨none, .store 3 (.tmp 8) (.tmp 29), none⟩, ⟨(some 9), .mv (.const (.p (.int .i64 0))), none⟩])
 (.ret [false, false, false, false, false, false, false, false, true, true, false, false, false, false, false, false, false, false, false, false, false, false, false, false, false, false, false, false, false, false, false, false, false, false, false, false, false, false, false, false, false, false, false, false, false, false, false]))
 (.seq (.region [⟨(some 31), .mv (.tmp 0), none⟩, ⟨(some 32), .mv (.tmp 1), none⟩, ⟨(some 33), .bin .sub (.tmp 31) (.tmp 32), none⟩, ⟨(some 34), .mv (.tmp 3), none⟩, ⟨(some 35), .len (.tmp 34), none⟩, ⟨(some 36), .bin .geq (.tmp 33) (.tmp 35), none⟩, ⟨(some 30), .mv (.tmp 36), none⟩])
 (.cond (.tmp 30) (.seq (.region [⟨(some 37), .build [(.p (.int .i64 0)), (.p (.int .i64 0)), (.p (.int .i64 0))] [], none⟩, ⟨none, .store 3 (.tmp 8) (.tmp 37), none⟩, ⟨(some 9), .mv (.const (.p (.int .i64 4))), none⟩])
 (.ret [false, false, false, false, false, false, false, false, true, true, false, false, false, false, false, false, false, false, false, false, false, false, false, false, false, false, false, false, false, false, false, false, false, false, false, false, false, false, false, false, false, false, false, false, false, false, false]))
 (.skip))))))))))
 (.seq (.region [⟨(some 38), .mv (.tmp 3), none⟩, ⟨(some 39), .mv (.tmp 0), none⟩, ⟨(some 40), .mv (.tmp 1), none⟩, ⟨(some 41), .bin .sub (.tmp 39) (.tmp 40), none⟩, ⟨(some 42), .indexAddr 17 (.tmp 38) (.tmp 41), none⟩, ⟨(some 43), .fieldAddr 0 (.tmp 42), none⟩, ⟨(some 44), .load false 1 (.tmp 43), none⟩, ⟨(some 45), .fieldAddr 2 (.tmp 10), none⟩, ⟨none, .store 1 (.tmp 45) (.tmp 44), none⟩])
 (.seq (.region [⟨(some 46), .load true 3 (.tmp 10), none⟩, ⟨none, .store 3 (.tmp 8) (.tmp 46), none⟩, ⟨(some 9), .mv (.const (.p (.int .i64 0))), none⟩])
 (.ret [false, false, false, false, false, false, false, false, true, true, false, false, false, false, false, false, false, false, false, false, false, false, false, false, false, false, false, false, false, false, false, false, false, false, false, false, false, false, false, false, false, false, false, false, false, false, false])))))⟩
theorem cf15 : compF Try.prog (fun _ _ => false) Try.f15 = some lf15 := by kernel_rfl
theorem fr15 : FR Try.prog 15 lf15 := compF_sound (by kernel_rfl) Try.func15 (by kernel_rfl) cf15

def lf16 : LFn := ⟨6, [.tmp 2],
 .seq (.region [⟨(some 2), .mv (.const (.p (.bool false))), none⟩])
 (.seq (.region [⟨(some 3), .mv (.tmp 0), none⟩, ⟨(some 4), .call 28 [(.tmp 3), (.const (.fn (.func 29) [] []))], none⟩, ⟨(some 5), .un .not (.tmp 4), none⟩, ⟨(some 2), .mv (.tmp 5), none⟩])
 (.ret [false, false, true, false, false, false]))⟩
theorem cf16 : compF Try.prog (fun _ _ => false) Try.f16 = some lf16 := by kernel_rfl
theorem fr16 : FR Try.prog 16 lf16 := compF_sound (by kernel_rfl) Try.func16 (by kernel_rfl) cf16

def lf17 : LFn := ⟨6, [.tmp 2],
 .seq (.region [⟨(some 2), .mv (.const (.p .nilp)), none⟩])
 (.seq (.region [⟨(some 3), .mv (.tmp 0), none⟩, ⟨(some 4), .build [(.tight []), (.p (.bool false))] [(0, 1, (.tmp 3))], none⟩, ⟨(some 5), .box (.tmp 4), none⟩, ⟨(some 2), .mv (.tmp 5), none⟩])
 (.ret [false, false, true, false, false, false]))⟩
theorem cf17 : compF Try.prog (fun _ _ => false) Try.f17 = some lf17 := by kernel_rfl
theorem fr17 : FR Try.prog 17 lf17 := compF_sound (by kernel_rfl) Try.func17 (by kernel_rfl) cf17

def lf18 : LFn := ⟨25, [.tmp 2],
 .seq (.region [⟨(some 2), .mv (.const (.p (.int .i64 0))), none⟩])
 (.seq (.seq (.region [⟨(some 4), .mv (.tmp 0), none⟩, ⟨(some 5), .call 30 [(.tmp 4)], none⟩, ⟨(some 6), .bin .eql (.tmp 5) (.const (.p (.int .i64 0))), none⟩])
 (.cond (.tmp 6) (.seq (.region [⟨(some 7), .mv (.tmp 0), none⟩, ⟨(some 8), .call 31 [(.tmp 7)], none⟩])
 (.seq (.region [⟨(some 2), .mv (.const (.p (.int .i64 0))), none⟩])
 (.ret [false, false, true, false, false, false, false, false, false, false, false, false, false, false, false, false, false, false, false, false, false, false, false, false, false])))
 (.skip)))
 (.seq (.region [⟨(some 9), .mv (.tmp 0), none⟩, ⟨(some 10), .nilChk (.tmp 9), none⟩, ⟨(some 11), .fieldAddr 0 (.tmp 10), none⟩, ⟨(some 12), .load false 1 (.tmp 11), none⟩, ⟨(some 13), .indexAddr 1 (.tmp 12) (.const (.p (.int .i64 0))), none⟩, ⟨(some 14), .load false 1 (.tmp 13), none⟩, ⟨(some 3), .mv (.tmp 14), none⟩])
 (.seq (.region [⟨(some 15), .mv (.tmp 0), none⟩, ⟨(some 16), .mv (.tmp 0), none⟩, ⟨(some 17), .nilChk (.tmp 16), none⟩, ⟨(some 18), .fieldAddr 0 (.tmp 17), none⟩, ⟨(some 19), .load false 1 (.tmp 18), none⟩, ⟨(some 20), .slice 1 (.tmp 19) (some (.const (.p (.int .i64 1)))) none none, none⟩, ⟨(some 21), .nilChk (.tmp 15), none⟩, ⟨(some 22), .fieldAddr 0 (.tmp 21), none⟩, ⟨none, .store 1 (.tmp 22) (.tmp 20), none⟩])
 (.seq (.region [⟨(some 23), .mv (.tmp 3), none⟩, ⟨(some 24), .cv (.int .i64) (.tmp 23), none⟩, ⟨(some 2), .mv (.tmp 24), none⟩])
 (.ret [false, false, true, false, false, false, false, false, false, false, false, false, false, false, false, false, false, false, false, false, false, false, false, false, false])))))⟩
theorem cf18 : compF Try.prog (fun _ _ => false) Try.f18 = some lf18 := by kernel_rfl
theorem fr18 : FR Try.prog 18 lf18 := compF_sound (by kernel_rfl) Try.func18 (by kernel_rfl) cf18

def lf19 : LFn := ⟨26, [.tmp 4],
 .seq (.region [⟨(some 4), .mv (.const (.p (.int .i64 0))), none⟩])
 (.seq (.region [⟨(some 8), .mv (.tmp 0), none⟩, ⟨(some 9), .call 32 [(.tmp 8)], none⟩, ⟨(some 7), .mv (.tmp 9), none⟩, ⟨(some 10), .extract (.tmp 7) 0, none⟩, ⟨(some 11), .extract (.tmp 7) 1, none⟩, ⟨(some 5), .mv (.tmp 10), none⟩, ⟨(some 6), .mv (.tmp 11), none⟩])
 (.seq (.seq (.region [⟨(some 12), .mv (.tmp 0), none⟩, ⟨(some 13), .mv (.tmp 6), none⟩, ⟨(some 14), .mv (.tmp 5), none⟩, ⟨(some 15), .bin .leq (.tmp 14) (.const (.p (.int .u64 4611686018427387904))), none⟩, ⟨(some 16), .mv (.tmp 15), none⟩, ⟨(some 17), .mv (.tmp 5), (some (16, true))⟩, ⟨(some 18), .cv (.int .i64) (.tmp 17), (some (16, true))⟩, ⟨(some 19), .mv (.tmp 1), (some (16, true))⟩, ⟨(some 20), .bin .leq (.tmp 18) (.tmp 19), (some (16, true))⟩, ⟨(some 21), .pick (.tmp 16) (.tmp 20) (.const (.p (.bool false))), none⟩, ⟨(some 22), .call 33 [(.tmp 12), (.tmp 13), (.tmp 21)], none⟩, ⟨(some 23), .un .not (.tmp 22), none⟩])
 (.cond (.tmp 23) (.seq (.region [⟨(some 4), .mv (.const (.p (.int .i64 0))), none⟩])
 (.ret [false, false, false, false, true, false, false, false, false, false, false, false, false, false, false, false, false, false, false, false, false, false, false, false, false, false]))
 (.skip)))
 (.seq (.region [⟨(some 24), .mv (.tmp 5), none⟩, ⟨(some 25), .cv (.int .i64) (.tmp 24), none⟩, ⟨(some 4), .mv (.tmp 25), none⟩])
 (.ret [false, false, false, false, true, false, false, false, false, false, false, false, false, false, false, false, false, false, false, false, false, false, false, false, false, false]))))⟩
theorem cf19 : compF Try.prog (fun _ _ => false) Try.f19 = some lf19 := by kernel_rfl
theorem fr19 : FR Try.prog 19 lf19 := compF_sound (by kernel_rfl) Try.func19 (by kernel_rfl) cf19

def lf20 : LFn := ⟨11, [.tmp 2],
 .seq (.region [⟨(some 2), .mv (.const (.p (.bool false))), none⟩])
 (.seq (.region [⟨(some 3), .mv (.tmp 0), none⟩, ⟨(some 4), .peq false (.tmp 3) (.const (.p .nilp)), none⟩, ⟨(some 5), .mv (.tmp 4), none⟩, ⟨(some 6), .mv (.tmp 0), (some (5, false))⟩, ⟨(some 7), .nilChk (.tmp 6), (some (5, false))⟩, ⟨(some 8), .fieldAddr 1 (.tmp 7), (some (5, false))⟩, ⟨(some 9), .load false 1 (.tmp 8), (some (5, false))⟩, ⟨(some 10), .pick (.tmp 5) (.const (.p (.bool true))) (.tmp 9), none⟩, ⟨(some 2), .mv (.tmp 10), none⟩])
 (.ret [false, false, true, false, false, false, false, false, false, false, false]))⟩
theorem cf20 : compF Try.prog (fun _ _ => false) Try.f20 = some lf20 := by kernel_rfl
theorem fr20 : FR Try.prog 20 lf20 := compF_sound (by kernel_rfl) Try.func20 (by kernel_rfl) cf20

def lf21 : LFn := ⟨26, [.tmp 4],
 .seq (.region [⟨(some 4), .mv (.const (.p (.bool false))), none⟩])
 (.seq (.seq (.region [⟨(some 6), .mv (.tmp 0), none⟩, ⟨(some 7), .len (.tmp 6), none⟩, ⟨(some 8), .mv (.tmp 1), none⟩, ⟨(some 9), .len (.tmp 8), none⟩, ⟨(some 10), .bin .neq (.tmp 7) (.tmp 9), none⟩])
 (.cond (.tmp 10) (.seq (.region [⟨(some 4), .mv (.const (.p (.bool false))), none⟩])
 (.ret [false, false, false, false, true, false, false, false, false, false, false, false, false, false, false, false, false, false, false, false, false, false, false, false, false, false]))
 (.skip)))
 (.seq (.seq (.region [⟨(some 11), .mv (.tmp 0), none⟩, ⟨(some 12), .len (.tmp 11), none⟩, ⟨(some 13), .mv (.const (.p (.int .i64 0))), none⟩])
 (.block 0 [false, false, false, false, false, false, false, false, false, false, false, false, false, false, false, false, false, false, false, false, false, false, false, false, false, false] (.loop [true, true, false, false, false, false, false, false, false, false, false, false, true, true, false, false, false, false, false, false, false, false, false, false, false, false] (.seq (.region [⟨(some 14), .bin .lss (.tmp 13) (.tmp 12), none⟩])
 (.seq (.cond (.tmp 14) (.skip)
 (.exit 0 [false, false, false, false, false, false, false, false, false, false, false, false, false, false, false, false, false, false, false, false, false, false, false, false, false, false]))
 (.seq (.block 1 [true, true, false, false, false, false, false, false, false, false, false, false, true, true, false, false, false, false, false, false, false, false, false, false, false, false] (.seq (.region [⟨(some 15), .mv (.tmp 13), none⟩, ⟨(some 5), .mv (.tmp 15), none⟩])
 (.seq (.drawn [⟨.h, 0, [], ⟨(some 16), .mv (.tmp 0), none⟩⟩, ⟨.h, 1, [], ⟨(some 17), .mv (.tmp 5), none⟩⟩, ⟨.h, 2, [], ⟨(some 18), .indexAddr 1 (.tmp 16) (.tmp 17), none⟩⟩, ⟨.h, 3, [], ⟨(some 19), .load false 1 (.tmp 18), none⟩⟩, ⟨.h, 4, [], ⟨(some 20), .mv (.tmp 1), none⟩⟩, ⟨.h, 5, [], ⟨(some 21), .mv (.tmp 5), none⟩⟩, ⟨.h, 6, [], ⟨(some 22), .indexAddr 1 (.tmp 20) (.tmp 21), none⟩⟩, ⟨.h, 7, [], ⟨(some 23), .load false 1 (.tmp 22), none⟩⟩, ⟨.h, 8, [], ⟨(some 24), .bin .neq (.tmp 19) (.tmp 23), none⟩⟩])
 (.cond (.tmp 24) (.seq (.region [⟨(some 4), .mv (.const (.p (.bool false))), none⟩])
 (.ret [false, false, false, false, true, false, false, false, false, false, false, false, false, false, false, false, false, false, false, false, false, false, false, false, false, false]))
 (.skip)))))
 (.region [⟨(some 25), .bin .add (.tmp 13) (.const (.p (.int .i64 1))), none⟩, ⟨(some 13), .mv (.tmp 25), none⟩])))))))
 (.seq (.region [⟨(some 4), .mv (.const (.p (.bool true))), none⟩])
 (.ret [false, false, false, false, true, false, false, false, false, false, false, false, false, false, false, false, false, false, false, false, false, false, false, false, false, false]))))⟩
theorem cf21 : compF Try.prog (fun _ _ => false) Try.f21 = some lf21 := by kernel_rfl
theorem fr21 : FR Try.prog 21 lf21 := compF_sound (by kernel_rfl) Try.func21 (by kernel_rfl) cf21

def lf22 : LFn := ⟨6, [.tmp 2],
 .seq (.region [⟨(some 2), .mv (.const (.tight [])), none⟩])
 (.seq (.region [⟨(some 3), .mv (.tmp 0), none⟩, ⟨(some 4), .cv (.int .u64) (.tmp 3), none⟩, ⟨(some 5), .call 34 [(.tmp 4)], none⟩, ⟨(some 2), .mv (.tmp 5), none⟩])
 (.ret [false, false, true, false, false, false]))⟩
theorem cf22 : compF Try.prog (fun _ _ => false) Try.f22 = some lf22 := by kernel_rfl
theorem fr22 : FR Try.prog 22 lf22 := compF_sound (by kernel_rfl) Try.func22 (by kernel_rfl) cf22

def lf23 : LFn := ⟨34, [.tmp 2],
 .seq (.region [⟨(some 2), .mv (.const (.p (.int .i64 0))), none⟩])
 (.seq (.region [⟨(some 3), .mv (.const (.p (.int .u32 4294967295))), none⟩])
 (.seq (.seq (.region [⟨(some 4), .mv (.const (.p (.int .i64 0))), none⟩])
 (.block 0 [false, false, false, true, false, false, false, false, false, false, false, false, false, false, false, false, false, false, false, false, false, false, false, false, false, false, false, false, false, false, false, false, false, false] (.loop [true, false, false, true, true, false, false, false, false, false, false, false, false, false, false, false, false, false, false, false, false, false, false, false, false, false, false, false, false, false, false, false, false, false] (.seq (.seq (.region [⟨(some 6), .mv (.tmp 4), none⟩, ⟨(some 7), .mv (.tmp 0), none⟩, ⟨(some 8), .len (.tmp 7), none⟩, ⟨(some 9), .bin .lss (.tmp 6) (.tmp 8), none⟩])
 (.cond (.tmp 9) (.skip)
 (.exit 0 [false, false, false, true, false, false, false, false, false, false, false, false, false, false, false, false, false, false, false, false, false, false, false, false, false, false, false, false, false, false, false, false, false, false])))
 (.seq (.block 1 [true, false, false, true, true, false, false, false, false, false, false, false, false, false, false, false, false, false, false, false, false, false, false, false, false, false, false, false, false, false, false, false, false, false] (.seq (.region [⟨(some 12), .mv (.tmp 3), none⟩, ⟨(some 13), .mv (.tmp 0), none⟩, ⟨(some 14), .mv (.tmp 4), none⟩, ⟨(some 15), .indexAddr 1 (.tmp 13) (.tmp 14), none⟩, ⟨(some 16), .load false 1 (.tmp 15), none⟩, ⟨(some 17), .cv (.int .u32) (.tmp 16), none⟩, ⟨(some 18), .bin .xor (.tmp 12) (.tmp 17), none⟩, ⟨(some 3), .mv (.tmp 18), none⟩])
 (.seq (.region [⟨(some 5), .mv (.const (.p (.int .i64 0))), none⟩])
 (.block 2 [true, false, false, true, true, false, false, false, false, false, false, false, false, false, false, false, false, false, false, false, false, false, false, false, false, false, false, false, false, false, false, false, false, false] (.loop [true, false, false, true, true, true, false, false, false, false, false, false, false, false, false, false, false, false, false, false, false, false, false, false, false, false, false, false, false, false, false, false, false, false] (.seq (.seq (.region [⟨(some 19), .mv (.tmp 5), none⟩, ⟨(some 20), .bin .lss (.tmp 19) (.const (.p (.int .i64 8))), none⟩])
 (.cond (.tmp 20) (.skip)
 (.exit 2 [true, false, false, true, true, false, false, false, false, false, false, false, false, false, false, false, false, false, false, false, false, false, false, false, false, false, false, false, false, false, false, false, false, false])))
 (.seq (.block 3 [true, false, false, true, true, true, false, false, false, false, false, false, false, false, false, false, false, false, false, false, false, false, false, false, false, false, false, false, false, false, false, false, false, false] (.seq (.region [⟨(some 23), .mv (.tmp 3), none⟩, ⟨(some 24), .bin .rem (.tmp 23) (.const (.p (.int .u32 2))), none⟩, ⟨(some 25), .bin .eql (.tmp 24) (.const (.p (.int .u32 1))), none⟩])
 (.cond (.tmp 25) (.region [⟨(some 26), .mv (.tmp 3), none⟩, ⟨(some 27), .bin .quo (.tmp 26) (.const (.p (.int .u32 2))), none⟩, ⟨(some 28), .bin .xor (.tmp 27) (.const (.p (.int .u32 3988292384))), none⟩, ⟨(some 3), .mv (.tmp 28), none⟩])
 (.region [⟨(some 29), .mv (.tmp 3), none⟩, ⟨(some 30), .bin .quo (.tmp 29) (.const (.p (.int .u32 2))), none⟩, ⟨(some 3), .mv (.tmp 30), none⟩]))))
 (.region [⟨(some 21), .mv (.tmp 5), none⟩, ⟨(some 22), .bin .add (.tmp 21) (.const (.p (.int .i64 1))), none⟩, ⟨(some 5), .mv (.tmp 22), none⟩]))))))))
 (.region [⟨(some 10), .mv (.tmp 4), none⟩, ⟨(some 11), .bin .add (.tmp 10) (.const (.p (.int .i64 1))), none⟩, ⟨(some 4), .mv (.tmp 11), none⟩]))))))
 (.seq (.region [⟨(some 31), .mv (.tmp 3), none⟩, ⟨(some 32), .un .xor (.tmp 31), none⟩, ⟨(some 33), .cv (.int .i64) (.tmp 32), none⟩, ⟨(some 2), .mv (.tmp 33), none⟩])
 (.ret [false, false, true, false, false, false, false, false, false, false, false, false, false, false, false, false, false, false, false, false, false, false, false, false, false, false, false, false, false, false, false, false, false, false]))))⟩
theorem cf23 : compF Try.prog (fun _ _ => false) Try.f23 = some lf23 := by kernel_rfl
theorem fr23 : FR Try.prog 23 lf23 := compF_sound (by kernel_rfl) Try.func23 (by kernel_rfl) cf23

def lf24 : LFn := ⟨35, [.tmp 2],
 .seq (.region [⟨(some 2), .mv (.const (.p (.int .i64 0))), none⟩])
 (.seq (.seq (.region [⟨(some 4), .mv (.tmp 0), none⟩, ⟨(some 5), .nilChk (.tmp 4), none⟩, ⟨(some 6), .fieldAddr 1 (.tmp 5), none⟩, ⟨(some 7), .load false 1 (.tmp 6), none⟩, ⟨(some 8), .mv (.tmp 7), none⟩, ⟨(some 9), .mv (.tmp 0), (some (8, false))⟩, ⟨(some 10), .nilChk (.tmp 9), (some (8, false))⟩, ⟨(some 11), .fieldAddr 0 (.tmp 10), (some (8, false))⟩, ⟨(some 12), .load false 1 (.tmp 11), (some (8, false))⟩, ⟨(some 13), .len (.tmp 12), (some (8, false))⟩, ⟨(some 14), .bin .eql (.tmp 13) (.const (.p (.int .i64 0))), (some (8, false))⟩, ⟨(some 15), .pick (.tmp 8) (.const (.p (.bool true))) (.tmp 14), none⟩])
 (.cond (.tmp 15) (.seq (.region [⟨(some 16), .mv (.tmp 0), none⟩, ⟨(some 17), .nilChk (.tmp 16), none⟩, ⟨(some 18), .fieldAddr 1 (.tmp 17), none⟩, ⟨none, .store 1 (.tmp 18) (.const (.p (.bool true))), none⟩])
 (.seq (.region [⟨(some 2), .mv (.const (.p (.int .i64 0))), none⟩])
 (.ret [false, false, true, false, false, false, false, false, false, false, false, false, false, false, false, false, false, false, false, false, false, false, false, false, false, false, false, false, false, false, false, false, false, false, false])))
 (.skip)))
 (.seq (.region [⟨(some 19), .mv (.tmp 0), none⟩, ⟨(some 20), .nilChk (.tmp 19), none⟩, ⟨(some 21), .fieldAddr 0 (.tmp 20), none⟩, ⟨(some 22), .load false 1 (.tmp 21), none⟩, ⟨(some 23), .indexAddr 1 (.tmp 22) (.const (.p (.int .i64 0))), none⟩, ⟨(some 24), .load false 1 (.tmp 23), none⟩, ⟨(some 25), .cv (.int .i64) (.tmp 24), none⟩, ⟨(some 3), .mv (.tmp 25), none⟩])
 (.seq (.region [⟨(some 26), .mv (.tmp 0), none⟩, ⟨(some 27), .mv (.tmp 0), none⟩, ⟨(some 28), .nilChk (.tmp 27), none⟩, ⟨(some 29), .fieldAddr 0 (.tmp 28), none⟩, ⟨(some 30), .load false 1 (.tmp 29), none⟩, ⟨(some 31), .slice 1 (.tmp 30) (some (.const (.p (.int .i64 1)))) none none, none⟩, ⟨(some 32), .nilChk (.tmp 26), none⟩, ⟨(some 33), .fieldAddr 0 (.tmp 32), none⟩, ⟨none, .store 1 (.tmp 33) (.tmp 31), none⟩])
 (.seq (.region [⟨(some 34), .mv (.tmp 3), none⟩, ⟨(some 2), .mv (.tmp 34), none⟩])
 (.ret [false, false, true, false, false, false, false, false, false, false, false, false, false, false, false, false, false, false, false, false, false, false, false, false, false, false, false, false, false, false, false, false, false, false, false])))))⟩
theorem cf24 : compF Try.prog (fun _ _ => false) Try.f24 = some lf24 := by kernel_rfl
theorem fr24 : FR Try.prog 24 lf24 := compF_sound (by kernel_rfl) Try.func24 (by kernel_rfl) cf24

def lf25 : LFn := ⟨40, [.tmp 4],
 .seq (.region [⟨(some 4), .mv (.const (.p (.int .i64 0))), none⟩])
 (.seq (.seq (.region [⟨(some 7), .mv (.tmp 0), none⟩, ⟨(some 8), .nilChk (.tmp 7), none⟩, ⟨(some 9), .fieldAddr 1 (.tmp 8), none⟩, ⟨(some 10), .load false 1 (.tmp 9), none⟩])
 (.cond (.tmp 10) (.seq (.region [⟨(some 4), .mv (.const (.p (.int .i64 0))), none⟩])
 (.ret [false, false, false, false, true, false, false, false, false, false, false, false, false, false, false, false, false, false, false, false, false, false, false, false, false, false, false, false, false, false, false, false, false, false, false, false, false, false, false, false]))
 (.skip)))
 (.seq (.region [⟨(some 11), .mv (.tmp 0), none⟩, ⟨(some 12), .nilChk (.tmp 11), none⟩, ⟨(some 13), .fieldAddr 0 (.tmp 12), none⟩, ⟨(some 14), .load false 1 (.tmp 13), none⟩, ⟨(some 5), .mv (.tmp 14), none⟩])
 (.seq (.region [⟨(some 15), .mv (.tmp 0), none⟩, ⟨(some 16), .call 35 [(.tmp 15)], none⟩, ⟨(some 6), .mv (.tmp 16), none⟩])
 (.seq (.seq (.region [⟨(some 17), .mv (.tmp 0), none⟩, ⟨(some 18), .nilChk (.tmp 17), none⟩, ⟨(some 19), .fieldAddr 1 (.tmp 18), none⟩, ⟨(some 20), .load false 1 (.tmp 19), none⟩, ⟨(some 21), .mv (.tmp 20), none⟩, ⟨(some 22), .mv (.tmp 6), (some (21, false))⟩, ⟨(some 23), .bin .gtr (.tmp 22) (.const (.p (.int .u64 4611686018427387904))), (some (21, false))⟩, ⟨(some 24), .pick (.tmp 21) (.const (.p (.bool true))) (.tmp 23), none⟩, ⟨(some 25), .mv (.tmp 24), none⟩, ⟨(some 26), .mv (.tmp 6), (some (25, false))⟩, ⟨(some 27), .cv (.int .i64) (.tmp 26), (some (25, false))⟩, ⟨(some 28), .mv (.tmp 1), (some (25, false))⟩, ⟨(some 29), .bin .gtr (.tmp 27) (.tmp 28), (some (25, false))⟩, ⟨(some 30), .pick (.tmp 25) (.const (.p (.bool true))) (.tmp 29), none⟩])
 (.cond (.tmp 30) (.seq (.region [⟨(some 31), .mv (.tmp 0), none⟩, ⟨(some 32), .mv (.tmp 0), none⟩, ⟨(some 33), .mv (.tmp 5), none⟩, ⟨(some 34), .nilChk (.tmp 31), none⟩, ⟨(some 35), .fieldAddr 0 (.tmp 34), none⟩, ⟨none, .store 1 (.tmp 35) (.tmp 33), none⟩, ⟨(some 36), .nilChk (.tmp 32), none⟩, ⟨(some 37), .fieldAddr 1 (.tmp 36), none⟩, ⟨none, .store 1 (.tmp 37) (.const (.p (.bool true))), none⟩])
 (.seq (.region [⟨(some 4), .mv (.const (.p (.int .i64 0))), none⟩])
 (.ret [false, false, false, false, true, false, false, false, false, false, false, false, false, false, false, false, false, false, false, false, false, false, false, false, false, false, false, false, false, false, false, false, false, false, false, false, false, false, false, false])))
 (.skip)))
 (.seq (.region [⟨(some 38), .mv (.tmp 6), none⟩, ⟨(some 39), .cv (.int .i64) (.tmp 38), none⟩, ⟨(some 4), .mv (.tmp 39), none⟩])
 (.ret [false, false, false, false, true, false, false, false, false, false, false, false, false, false, false, false, false, false, false, false, false, false, false, false, false, false, false, false, false, false, false, false, false, false, false, false, false, false, false, false]))))))⟩
theorem cf25 : compF Try.prog (fun _ _ => false) Try.f25 = some lf25 := by kernel_rfl
theorem fr25 : FR Try.prog 25 lf25 := compF_sound (by kernel_rfl) Try.func25 (by kernel_rfl) cf25

def lf26 : LFn := ⟨13, [.tmp 2, .tmp 3],
 .seq (.region [⟨(some 2), .mv (.const (.tight [])), none⟩, ⟨(some 3), .mv (.const (.p (.int .i64 0))), none⟩])
 (.seq (.seq (.region [⟨(some 4), .mv (.tmp 0), none⟩, ⟨(some 5), .bin .lss (.tmp 4) (.const (.p (.int .i64 0))), none⟩, ⟨(some 6), .mv (.tmp 5), none⟩, ⟨(some 7), .mv (.tmp 0), (some (6, false))⟩, ⟨(some 8), .bin .gtr (.tmp 7) (.const (.p (.int .i64 4611686018427387904))), (some (6, false))⟩, ⟨(some 9), .pick (.tmp 6) (.const (.p (.bool true))) (.tmp 8), none⟩])
 (.cond (.tmp 9) (.seq (.region [⟨(some 2), .mv (.const (.tight [])), none⟩, ⟨(some 3), .mv (.const (.p (.int .i64 1))), none⟩])
 (.ret [false, false, true, true, false, false, false, false, false, false, false, false, false]))
 (.skip)))
 (.seq (.region [⟨(some 10), .mv (.tmp 0), none⟩, ⟨(some 11), .cv (.int .u64) (.tmp 10), none⟩, ⟨(some 12), .call 36 [(.const (.tight [])), (.tmp 11)], none⟩, ⟨(some 2), .mv (.tmp 12), none⟩, ⟨(some 3), .mv (.const (.p (.int .i64 0))), none⟩])
 (.ret [false, false, true, true, false, false, false, false, false, false, false, false, false])))⟩
theorem cf26 : compF Try.prog (fun _ _ => false) Try.f26 = some lf26 := by kernel_rfl
theorem fr26 : FR Try.prog 26 lf26 := compF_sound (by kernel_rfl) Try.func26 (by kernel_rfl) cf26

def lf27 : LFn := ⟨25, [.tmp 2],
 .seq (.region [⟨(some 2), .mv (.const (.p (.int .i64 0))), none⟩])
 (.seq (.region [⟨(some 3), .mv (.const (.p (.int .u32 4294967295))), none⟩])
 (.seq (.seq (.region [⟨(some 6), .mv (.tmp 0), none⟩, ⟨(some 7), .len (.tmp 6), none⟩, ⟨(some 8), .mv (.const (.p (.int .i64 0))), none⟩])
 (.block 0 [false, false, false, true, false, false, false, false, false, false, false, false, false, false, false, false, false, false, false, false, false, false, false, false, false] (.loop [false, false, false, true, false, false, true, true, true, false, false, false, false, false, false, false, false, false, false, false, false, false, false, false, false] (.seq (.region [⟨(some 9), .bin .lss (.tmp 8) (.tmp 7), none⟩])
 (.seq (.cond (.tmp 9) (.skip)
 (.exit 0 [false, false, false, true, false, false, false, false, false, false, false, false, false, false, false, false, false, false, false, false, false, false, false, false, false]))
 (.seq (.block 1 [false, false, false, true, false, false, true, true, true, false, false, false, false, false, false, false, false, false, false, false, false, false, false, false, false] (.seq (.region [⟨(some 10), .indexAddr 1 (.tmp 6) (.tmp 8), none⟩, ⟨(some 11), .load false 1 (.tmp 10), none⟩, ⟨(some 5), .mv (.tmp 11), none⟩])
 (.seq (.region [⟨(some 12), .mv (.tmp 3), none⟩, ⟨(some 13), .mv (.tmp 5), none⟩, ⟨(some 14), .cv (.int .u32) (.tmp 13), none⟩, ⟨(some 15), .bin .xor (.tmp 12) (.tmp 14), none⟩, ⟨(some 3), .mv (.tmp 15), none⟩])
 (.seq (.region [⟨(some 16), .mv (.const (.p (.int .i64 0))), none⟩])
 (.block 2 [false, false, false, true, false, false, true, true, true, false, false, false, false, false, false, false, false, false, false, false, false, false, false, false, false] (.loop [false, false, false, true, false, false, true, true, true, false, false, false, false, false, false, false, true, false, false, false, false, false, false, false, false] (.seq (.region [⟨(some 17), .bin .lss (.tmp 16) (.const (.p (.int .i64 8))), none⟩])
 (.seq (.cond (.tmp 17) (.skip)
 (.exit 2 [false, false, false, true, false, false, true, true, true, false, false, false, false, false, false, false, false, false, false, false, false, false, false, false, false]))
 (.seq (.block 3 [false, false, false, true, false, false, true, true, true, false, false, false, false, false, false, false, true, false, false, false, false, false, false, false, false] (.region [⟨(some 18), .mv (.tmp 3), none⟩, ⟨(some 19), .call 37 [(.tmp 18)], none⟩, ⟨(some 3), .mv (.tmp 19), none⟩]))
 (.region [⟨(some 20), .bin .add (.tmp 16) (.const (.p (.int .i64 1))), none⟩, ⟨(some 16), .mv (.tmp 20), none⟩]))))))))))
 (.region [⟨(some 21), .bin .add (.tmp 8) (.const (.p (.int .i64 1))), none⟩, ⟨(some 8), .mv (.tmp 21), none⟩])))))))
 (.seq (.region [⟨(some 22), .mv (.tmp 3), none⟩, ⟨(some 23), .un .xor (.tmp 22), none⟩, ⟨(some 24), .cv (.int .i64) (.tmp 23), none⟩, ⟨(some 2), .mv (.tmp 24), none⟩])
 (.ret [false, false, true, false, false, false, false, false, false, false, false, false, false, false, false, false, false, false, false, false, false, false, false, false, false]))))⟩
theorem cf27 : compF Try.prog (fun _ _ => false) Try.f27 = some lf27 := by kernel_rfl
theorem fr27 : FR Try.prog 27 lf27 := compF_sound (by kernel_rfl) Try.func27 (by kernel_rfl) cf27

def lf28 : LFn := ⟨9, [.tmp 4],
 .seq (.region [⟨(some 4), .mv (.const (.p (.bool false))), none⟩])
 (.seq (.region [⟨(some 5), .mv (.tmp 0), none⟩, ⟨(some 6), .mv (.tmp 1), none⟩, ⟨(some 7), .call 38 [(.tmp 5), (.tmp 6)], none⟩, ⟨(some 8), .bin .geq (.tmp 7) (.const (.p (.int .i64 0))), none⟩, ⟨(some 4), .mv (.tmp 8), none⟩])
 (.ret [false, false, false, false, true, false, false, false, false]))⟩
theorem cf28 : compF Try.prog (fun _ _ => false) Try.f28 = some lf28 := by kernel_rfl
theorem fr28 : FR Try.prog 28 lf28 := compF_sound (by kernel_rfl) Try.func28 (by kernel_rfl) cf28

def lf29 : LFn := ⟨9, [.tmp 2],
 .seq (.region [⟨(some 2), .mv (.const (.p (.bool false))), none⟩])
 (.seq (.region [⟨(some 3), .mv (.tmp 0), none⟩, ⟨(some 4), .bin .lss (.tmp 3) (.const (.p (.int .i64 0))), none⟩, ⟨(some 5), .mv (.tmp 4), none⟩, ⟨(some 6), .mv (.tmp 0), (some (5, false))⟩, ⟨(some 7), .bin .gtr (.tmp 6) (.const (.p (.int .i64 1099511627776))), (some (5, false))⟩, ⟨(some 8), .pick (.tmp 5) (.const (.p (.bool true))) (.tmp 7), none⟩, ⟨(some 2), .mv (.tmp 8), none⟩])
 (.ret [false, false, true, false, false, false, false, false, false]))⟩
theorem cf29 : compF Try.prog (fun _ _ => false) Try.f29 = some lf29 := by kernel_rfl
theorem fr29 : FR Try.prog 29 lf29 := compF_sound (by kernel_rfl) Try.func29 (by kernel_rfl) cf29

def lf30 : LFn := ⟨10, [.tmp 2],
 .seq (.region [⟨(some 2), .mv (.const (.p (.int .i64 0))), none⟩])
 (.seq (.seq (.region [⟨(some 3), .mv (.tmp 0), none⟩, ⟨(some 4), .call 20 [(.tmp 3)], none⟩])
 (.cond (.tmp 4) (.seq (.region [⟨(some 2), .mv (.const (.p (.int .i64 0))), none⟩])
 (.ret [false, false, true, false, false, false, false, false, false, false]))
 (.skip)))
 (.seq (.region [⟨(some 5), .mv (.tmp 0), none⟩, ⟨(some 6), .nilChk (.tmp 5), none⟩, ⟨(some 7), .fieldAddr 0 (.tmp 6), none⟩, ⟨(some 8), .load false 1 (.tmp 7), none⟩, ⟨(some 9), .len (.tmp 8), none⟩, ⟨(some 2), .mv (.tmp 9), none⟩])
 (.ret [false, false, true, false, false, false, false, false, false, false])))⟩
theorem cf30 : compF Try.prog (fun _ _ => false) Try.f30 = some lf30 := by kernel_rfl
theorem fr30 : FR Try.prog 30 lf30 := compF_sound (by kernel_rfl) Try.func30 (by kernel_rfl) cf30

def lf31 : LFn := ⟨7, [],
 .seq (.region [⟨(some 2), .mv (.tmp 0), none⟩, ⟨(some 3), .peq true (.tmp 2) (.const (.p .nilp)), none⟩])
 (.cond (.tmp 3) (.region [⟨(some 4), .mv (.tmp 0), none⟩, ⟨(some 5), .nilChk (.tmp 4), none⟩, ⟨(some 6), .fieldAddr 1 (.tmp 5), none⟩, ⟨none, .store 1 (.tmp 6) (.const (.p (.bool true))), none⟩])
 (.skip))⟩
theorem cf31 : compF Try.prog (fun _ _ => false) Try.f31 = some lf31 := by kernel_rfl
theorem fr31 : FR Try.prog 31 lf31 := compF_sound (by kernel_rfl) Try.func31 (by kernel_rfl) cf31

def lf32 : LFn := ⟨47, [.tmp 2, .tmp 3],
 .seq (.region [⟨(some 2), .mv (.const (.p (.int .u64 0))), none⟩, ⟨(some 3), .mv (.const (.p (.int .i64 0))), none⟩])
 (.seq (.region [⟨(some 4), .mv (.const (.p (.int .u64 0))), none⟩])
 (.seq (.seq (.region [⟨(some 7), .mv (.tmp 0), none⟩, ⟨(some 8), .call 30 [(.tmp 7)], none⟩, ⟨(some 9), .mn (.tmp 8) (.const (.p (.int .i64 10))), none⟩, ⟨(some 10), .mv (.const (.p (.int .i64 0))), none⟩])
 (.block 0 [false, false, false, false, false, false, false, false, false, false, false, false, false, false, false, false, false, false, false, false, false, false, false, false, false, false, false, false, false, false, false, false, false, false, false, false, false, false, false, false, false, false, false, false, false, false, false] (.loop [true, false, false, false, true, false, false, false, false, true, true, false, false, false, false, false, false, false, false, false, false, false, false, false, false, false, false, false, false, false, false, false, false, false, false, false, false, false, false, false, false, false, false, false, false, false, false] (.seq (.region [⟨(some 11), .bin .lss (.tmp 10) (.tmp 9), none⟩])
 (.seq (.cond (.tmp 11) (.skip)
 (.exit 0 [false, false, false, false, false, false, false, false, false, false, false, false, false, false, false, false, false, false, false, false, false, false, false, false, false, false, false, false, false, false, false, false, false, false, false, false, false, false, false, false, false, false, false, false, false, false, false]))
 (.seq (.block 1 [true, false, false, false, true, false, false, false, false, true, true, false, false, false, false, false, false, false, false, false, false, false, false, false, false, false, false, false, false, false, false, false, false, false, false, false, false, false, false, false, false, false, false, false, false, false, false] (.seq (.region [⟨(some 12), .mv (.tmp 10), none⟩, ⟨(some 5), .mv (.tmp 12), none⟩])
 (.seq (.region [⟨(some 13), .mv (.tmp 0), none⟩, ⟨(some 14), .nilChk (.tmp 13), none⟩, ⟨(some 15), .fieldAddr 0 (.tmp 14), none⟩, ⟨(some 16), .load false 1 (.tmp 15), none⟩, ⟨(some 17), .mv (.tmp 5), none⟩, ⟨(some 18), .indexAddr 1 (.tmp 16) (.tmp 17), none⟩, ⟨(some 19), .load false 1 (.tmp 18), none⟩, ⟨(some 6), .mv (.tmp 19), none⟩])
 (.seq (.block 2 [true, false, false, false, true, true, true, false, false, true, true, false, false, false, false, false, false, false, false, false, false, false, false, false, false, false, false, false, false, false, false, false, false, false, false, false, false, false, false, false, false, false, false, false, false, false, false] (.seq (.seq (.region [⟨(some 21), .mv (.tmp 5), none⟩, ⟨(some 22), .bin .eql (.tmp 21) (.const (.p (.int .i64 9))), none⟩, ⟨(some 23), .mv (.tmp 22), none⟩, ⟨(some 24), .mv (.tmp 6), (some (23, true))⟩, ⟨(some 25), .bin .gtr (.tmp 24) (.const (.p (.int .u8 1))), (some (23, true))⟩, ⟨(some 26), .pick (.tmp 23) (.tmp 25) (.const (.p (.bool false))), none⟩, ⟨(some 20), .mv (.tmp 26), none⟩])
 (.cond (.tmp 20) (.skip)
 (.region [⟨(some 27), .mv (.tmp 5), none⟩, ⟨(some 28), .bin .gtr (.tmp 27) (.const (.p (.int .i64 0))), none⟩, ⟨(some 29), .mv (.tmp 28), none⟩, ⟨(some 30), .mv (.tmp 6), (some (29, true))⟩, ⟨(some 31), .bin .eql (.tmp 30) (.const (.p (.int .u8 0))), (some (29, true))⟩, ⟨(some 32), .pick (.tmp 29) (.tmp 31) (.const (.p (.bool false))), none⟩, ⟨(some 20), .mv (.tmp 32), none⟩])))
 (.cond (.tmp 20) (.seq (.region [⟨(some 2), .mv (.const (.p (.int .u64 0))), none⟩, ⟨(some 3), .mv (.const (.p (.int .i64 0))), none⟩])
 (.ret [false, false, true, true, false, false, false, false, false, false, false, false, false, false, false, false, false, false, false, false, false, false, false, false, false, false, false, false, false, false, false, false, false, false, false, false, false, false, false, false, false, false, false, false, false, false, false]))
 (.skip))))
 (.seq (.region [⟨(some 33), .mv (.tmp 4), none⟩, ⟨(some 34), .mv (.tmp 6), none⟩, ⟨(some 35), .bin .and (.tmp 34) (.const (.p (.int .u8 127))), none⟩, ⟨(some 36), .cv (.int .u64) (.tmp 35), none⟩, ⟨(some 37), .mv (.tmp 5), none⟩, ⟨(some 38), .bin .mul (.const (.p (.int .i64 7))) (.tmp 37), none⟩, ⟨(some 39), .bin .shl (.tmp 36) (.tmp 38), none⟩, ⟨(some 40), .bin .or (.tmp 33) (.tmp 39), none⟩, ⟨(some 4), .mv (.tmp 40), none⟩])
 (.seq (.region [⟨(some 41), .mv (.tmp 6), none⟩, ⟨(some 42), .bin .lss (.tmp 41) (.const (.p (.int .u8 128))), none⟩])
 (.cond (.tmp 42) (.seq (.region [⟨(some 43), .mv (.tmp 4), none⟩, ⟨(some 44), .mv (.tmp 5), none⟩, ⟨(some 45), .bin .add (.tmp 44) (.const (.p (.int .i64 1))), none⟩, ⟨(some 2), .mv (.tmp 43), none⟩, ⟨(some 3), .mv (.tmp 45), none⟩])
 (.ret [false, false, true, true, false, false, false, false, false, false, false, false, false, false, false, false, false, false, false, false, false, false, false, false, false, false, false, false, false, false, false, false, false, false, false, false, false, false, false, false, false, false, false, false, false, false, false]))
 (.skip))))))))
 (.region [⟨(some 46), .bin .add (.tmp 10) (.const (.p (.int .i64 1))), none⟩, ⟨(some 10), .mv (.tmp 46), none⟩])))))))
 (.seq (.region [⟨(some 2), .mv (.const (.p (.int .u64 0))), none⟩, ⟨(some 3), .mv (.const (.p (.int .i64 0))), none⟩])
 (.ret [false, false, true, true, false, false, false, false, false, false, false, false, false, false, false, false, false, false, false, false, false, false, false, false, false, false, false, false, false, false, false, false, false, false, false, false, false, false, false, false, false, false, false, false, false, false, false]))))⟩
theorem cf32 : compF Try.prog (fun _ _ => false) Try.f32 = some lf32 := by kernel_rfl
theorem fr32 : FR Try.prog 32 lf32 := compF_sound (by kernel_rfl) Try.func32 (by kernel_rfl) cf32

def lf33 : LFn := ⟨28, [.tmp 6],
 .seq (.region [⟨(some 6), .mv (.const (.p (.bool false))), none⟩])
 (.seq (.seq (.region [⟨(some 7), .mv (.tmp 0), none⟩, ⟨(some 8), .call 20 [(.tmp 7)], none⟩, ⟨(some 9), .mv (.tmp 8), none⟩, ⟨(some 10), .mv (.tmp 1), (some (9, false))⟩, ⟨(some 11), .bin .eql (.tmp 10) (.const (.p (.int .i64 0))), (some (9, false))⟩, ⟨(some 12), .pick (.tmp 9) (.const (.p (.bool true))) (.tmp 11), none⟩, ⟨(some 13), .mv (.tmp 12), none⟩, ⟨(some 14), .mv (.tmp 2), (some (13, false))⟩, ⟨(some 15), .un .not (.tmp 14), (some (13, false))⟩, ⟨(some 16), .pick (.tmp 13) (.const (.p (.bool true))) (.tmp 15), none⟩])
 (.cond (.tmp 16) (.seq (.region [⟨(some 17), .mv (.tmp 0), none⟩, ⟨(some 18), .call 31 [(.tmp 17)], none⟩])
 (.seq (.region [⟨(some 6), .mv (.const (.p (.bool false))), none⟩])
 (.ret [false, false, false, false, false, false, true, false, false, false, false, false, false, false, false, false, false, false, false, false, false, false, false, false, false, false, false, false])))
 (.skip)))
 (.seq (.region [⟨(some 19), .mv (.tmp 0), none⟩, ⟨(some 20), .mv (.tmp 0), none⟩, ⟨(some 21), .nilChk (.tmp 20), none⟩, ⟨(some 22), .fieldAddr 0 (.tmp 21), none⟩, ⟨(some 23), .load false 1 (.tmp 22), none⟩, ⟨(some 24), .mv (.tmp 1), none⟩, ⟨(some 25), .slice 1 (.tmp 23) (some (.tmp 24)) none none, none⟩, ⟨(some 26), .nilChk (.tmp 19), none⟩, ⟨(some 27), .fieldAddr 0 (.tmp 26), none⟩, ⟨none, .store 1 (.tmp 27) (.tmp 25), none⟩])
 (.seq (.region [⟨(some 6), .mv (.const (.p (.bool true))), none⟩])
 (.ret [false, false, false, false, false, false, true, false, false, false, false, false, false, false, false, false, false, false, false, false, false, false, false, false, false, false, false, false]))))⟩
theorem cf33 : compF Try.prog (fun _ _ => false) Try.f33 = some lf33 := by kernel_rfl
theorem fr33 : FR Try.prog 33 lf33 := compF_sound (by kernel_rfl) Try.func33 (by kernel_rfl) cf33

def lf34 : LFn := ⟨20, [.tmp 2],
 .seq (.region [⟨(some 2), .mv (.const (.tight [])), none⟩])
 (.seq (.region [⟨(some 3), .mv (.const (.tight [])), none⟩])
 (.seq (.block 0 [true, false, false, true, false, false, false, false, false, false, false, false, false, false, false, false, false, false, false, false] (.loop [true, false, false, true, false, false, false, false, false, false, false, false, false, false, false, false, false, false, false, false] (.seq (.seq (.region [⟨(some 4), .mv (.tmp 0), none⟩, ⟨(some 5), .bin .geq (.tmp 4) (.const (.p (.int .u64 128))), none⟩])
 (.cond (.tmp 5) (.skip)
 (.exit 0 [true, false, false, true, false, false, false, false, false, false, false, false, false, false, false, false, false, false, false, false])))
 (.block 1 [true, false, false, true, false, false, false, false, false, false, false, false, false, false, false, false, false, false, false, false] (.seq (.region [⟨(some 6), .mv (.tmp 3), none⟩, ⟨(some 7), .mv (.tmp 0), none⟩, ⟨(some 8), .bin .rem (.tmp 7) (.const (.p (.int .u64 128))), none⟩, ⟨(some 9), .cv (.int .u8) (.tmp 8), none⟩, ⟨(some 10), .bin .add (.tmp 9) (.const (.p (.int .u8 128))), none⟩, ⟨(some 11), .mkrow false 1 1 [(.p (.int .u8 0))] [(0, (.tmp 10))], none⟩, ⟨(some 12), .append false 1 1 (.tmp 6) (.tmp 11), none⟩, ⟨(some 3), .mv (.tmp 12), none⟩])
 (.region [⟨(some 13), .mv (.tmp 0), none⟩, ⟨(some 14), .bin .quo (.tmp 13) (.const (.p (.int .u64 128))), none⟩, ⟨(some 0), .mv (.tmp 14), none⟩]))))))
 (.seq (.region [⟨(some 15), .mv (.tmp 3), none⟩, ⟨(some 16), .mv (.tmp 0), none⟩, ⟨(some 17), .cv (.int .u8) (.tmp 16), none⟩, ⟨(some 18), .mkrow false 1 1 [(.p (.int .u8 0))] [(0, (.tmp 17))], none⟩, ⟨(some 19), .append false 1 1 (.tmp 15) (.tmp 18), none⟩, ⟨(some 2), .mv (.tmp 19), none⟩])
 (.ret [false, false, true, false, false, false, false, false, false, false, false, false, false, false, false, false, false, false, false, false]))))⟩
theorem cf34 : compF Try.prog (fun _ _ => false) Try.f34 = some lf34 := by kernel_rfl
theorem fr34 : FR Try.prog 34 lf34 := compF_sound (by kernel_rfl) Try.func34 (by kernel_rfl) cf34

def lf35 : LFn := ⟨82, [.tmp 2],
 .seq (.region [⟨(some 2), .mv (.const (.p (.int .u64 0))), none⟩])
 (.seq (.region [⟨(some 3), .mv (.const (.p (.int .u64 0))), none⟩])
 (.seq (.seq (.region [⟨(some 4), .mv (.const (.p (.int .i64 0))), none⟩])
 (.block 0 [true, false, false, false, false, false, false, false, false, false, false, false, false, false, false, false, false, false, false, false, false, false, false, false, false, false, false, false, false, false, false, false, false, false, false, false, false, false, false, false, false, false, false, false, false, false, false, false, false, false, false, false, false, false, false, false, false, false, false, false, false, false, false, false, false, false, false, false, false, false, false, false, false, false, false, false, false, false, false, false, false, false] (.loop [true, false, false, true, true, false, false, false, false, false, false, false, false, false, false, false, false, false, false, false, false, false, false, false, false, false, false, false, false, false, false, false, false, false, false, false, false, false, false, false, false, false, false, false, false, false, false, false, false, false, false, false, false, false, false, false, false, false, false, false, false, false, false, false, false, false, false, false, false, false, false, false, false, false, false, false, false, false, false, false, false, false] (.seq (.seq (.region [⟨(some 6), .mv (.tmp 4), none⟩, ⟨(some 7), .bin .lss (.tmp 6) (.const (.p (.int .i64 10))), none⟩, ⟨(some 8), .mv (.tmp 7), none⟩, ⟨(some 9), .mv (.tmp 4), (some (8, true))⟩, ⟨(some 10), .mv (.tmp 0), (some (8, true))⟩, ⟨(some 11), .nilChk (.tmp 10), (some (8, true))⟩, ⟨(some 12), .fieldAddr 0 (.tmp 11), (some (8, true))⟩, ⟨(some 13), .load false 1 (.tmp 12), (some (8, true))⟩, ⟨(some 14), .len (.tmp 13), (some (8, true))⟩, ⟨(some 15), .bin .lss (.tmp 9) (.tmp 14), (some (8, true))⟩, ⟨(some 16), .pick (.tmp 8) (.tmp 15) (.const (.p (.bool false))), none⟩])
 (.cond (.tmp 16) (.skip)
 (.exit 0 [true, false, false, false, false, false, false, false, false, false, false, false, false, false, false, false, false, false, false, false, false, false, false, false, false, false, false, false, false, false, false, false, false, false, false, false, false, false, false, false, false, false, false, false, false, false, false, false, false, false, false, false, false, false, false, false, false, false, false, false, false, false, false, false, false, false, false, false, false, false, false, false, false, false, false, false, false, false, false, false, false, false])))
 (.seq (.block 1 [true, false, false, true, true, false, false, false, false, false, false, false, false, false, false, false, false, false, false, false, false, false, false, false, false, false, false, false, false, false, false, false, false, false, false, false, false, false, false, false, false, false, false, false, false, false, false, false, false, false, false, false, false, false, false, false, false, false, false, false, false, false, false, false, false, false, false, false, false, false, false, false, false, false, false, false, false, false, false, false, false, false] (.seq (.region [⟨(some 19), .mv (.tmp 0), none⟩, ⟨(some 20), .nilChk (.tmp 19), none⟩, ⟨(some 21), .fieldAddr 0 (.tmp 20), none⟩, ⟨(some 22), .load false 1 (.tmp 21), none⟩, ⟨(some 23), .mv (.tmp 4), none⟩, ⟨(some 24), .indexAddr 1 (.tmp 22) (.tmp 23), none⟩, ⟨(some 25), .load false 1 (.tmp 24), none⟩, ⟨(some 26), .bin .rem (.tmp 25) (.const (.p (.int .u8 128))), none⟩, ⟨(some 27), .cv (.int .u64) (.tmp 26), none⟩, ⟨(some 5), .mv (.tmp 27), none⟩])
 (.seq (.seq (.region [⟨(some 28), .mv (.tmp 4), none⟩, ⟨(some 29), .bin .eql (.tmp 28) (.const (.p (.int .i64 9))), none⟩, ⟨(some 30), .mv (.tmp 29), none⟩, ⟨(some 31), .mv (.tmp 0), (some (30, true))⟩, ⟨(some 32), .nilChk (.tmp 31), (some (30, true))⟩, ⟨(some 33), .fieldAddr 0 (.tmp 32), (some (30, true))⟩, ⟨(some 34), .load false 1 (.tmp 33), (some (30, true))⟩, ⟨(some 35), .mv (.tmp 4), (some (30, true))⟩, ⟨(some 36), .indexAddr 1 (.tmp 34) (.tmp 35), (some (30, true))⟩, ⟨(some 37), .load false 1 (.tmp 36), (some (30, true))⟩, ⟨(some 38), .bin .gtr (.tmp 37) (.const (.p (.int .u8 1))), (some (30, true))⟩, ⟨(some 39), .pick (.tmp 30) (.tmp 38) (.const (.p (.bool false))), none⟩, ⟨(some 40), .mv (.tmp 39), none⟩, ⟨(some 41), .mv (.tmp 4), (some (40, false))⟩, ⟨(some 42), .bin .gtr (.tmp 41) (.const (.p (.int .i64 0))), (some (40, false))⟩, ⟨(some 43), .mv (.tmp 42), (some (40, false))⟩, ⟨(some 44), .mv (.tmp 0), (some (43, true))⟩, ⟨(some 45), .nilChk (.tmp 44), (some (43, true))⟩, ⟨(some 46), .fieldAddr 0 (.tmp 45), (some (43, true))⟩, ⟨(some 47), .load false 1 (.tmp 46), (some (43, true))⟩, ⟨(some 48), .mv (.tmp 4), (some (43, true))⟩, ⟨(some 49), .indexAddr 1 (.tmp 47) (.tmp 48), (some (43, true))⟩, ⟨(some 50), .load false 1 (.tmp 49), (some (43, true))⟩, ⟨(some 51), .bin .eql (.tmp 50) (.const (.p (.int .u8 0))), (some (43, true))⟩, ⟨(some 52), .pick (.tmp 43) (.tmp 51) (.const (.p (.bool false))), (some (40, false))⟩, ⟨(some 53), .pick (.tmp 40) (.const (.p (.bool true))) (.tmp 52), none⟩])
 (.cond (.tmp 53) (.exit 0 [true, false, false, false, false, false, false, false, false, false, false, false, false, false, false, false, false, false, false, false, false, false, false, false, false, false, false, false, false, false, false, false, false, false, false, false, false, false, false, false, false, false, false, false, false, false, false, false, false, false, false, false, false, false, false, false, false, false, false, false, false, false, false, false, false, false, false, false, false, false, false, false, false, false, false, false, false, false, false, false, false, false])
 (.skip)))
 (.seq (.region [⟨(some 54), .mv (.tmp 3), none⟩, ⟨(some 55), .mv (.tmp 5), none⟩, ⟨(some 56), .mv (.tmp 4), none⟩, ⟨(some 57), .bin .mul (.const (.p (.int .i64 7))) (.tmp 56), none⟩, ⟨(some 58), .bin .shl (.tmp 55) (.tmp 57), none⟩, ⟨(some 59), .bin .add (.tmp 54) (.tmp 58), none⟩, ⟨(some 3), .mv (.tmp 59), none⟩])
 (.seq (.region [⟨(some 60), .mv (.tmp 0), none⟩, ⟨(some 61), .nilChk (.tmp 60), none⟩, ⟨(some 62), .fieldAddr 0 (.tmp 61), none⟩, ⟨(some 63), .load false 1 (.tmp 62), none⟩, ⟨(some 64), .mv (.tmp 4), none⟩, ⟨(some 65), .indexAddr 1 (.tmp 63) (.tmp 64), none⟩, ⟨(some 66), .load false 1 (.tmp 65), none⟩, ⟨(some 67), .bin .lss (.tmp 66) (.const (.p (.int .u8 128))), none⟩])
 (.cond (.tmp 67) (.seq (.region [⟨(some 68), .mv (.tmp 0), none⟩, ⟨(some 69), .mv (.tmp 0), none⟩, ⟨(some 70), .nilChk (.tmp 69), none⟩, ⟨(some 71), .fieldAddr 0 (.tmp 70), none⟩, ⟨(some 72), .load false 1 (.tmp 71), none⟩, ⟨(some 73), .mv (.tmp 4), none⟩, ⟨(some 74), .bin .add (.tmp 73) (.const (.p (.int .i64 1))), none⟩, ⟨(some 75), .slice 1 (.tmp 72) (some (.tmp 74)) none none, none⟩, ⟨(some 76), .nilChk (.tmp 68), none⟩, ⟨(some 77), .fieldAddr 0 (.tmp 76), none⟩, ⟨none, .store 1 (.tmp 77) (.tmp 75), none⟩])
 (.seq (.region [⟨(some 78), .mv (.tmp 3), none⟩, ⟨(some 2), .mv (.tmp 78), none⟩])
 (.ret [false, false, true, false, false, false, false, false, false, false, false, false, false, false, false, false, false, false, false, false, false, false, false, false, false, false, false, false, false, false, false, false, false, false, false, false, false, false, false, false, false, false, false, false, false, false, false, false, false, false, false, false, false, false, false, false, false, false, false, false, false, false, false, false, false, false, false, false, false, false, false, false, false, false, false, false, false, false, false, false, false, false])))
 (.skip)))))))
 (.region [⟨(some 17), .mv (.tmp 4), none⟩, ⟨(some 18), .bin .add (.tmp 17) (.const (.p (.int .i64 1))), none⟩, ⟨(some 4), .mv (.tmp 18), none⟩]))))))
 (.seq (.region [⟨(some 79), .mv (.tmp 0), none⟩, ⟨(some 80), .nilChk (.tmp 79), none⟩, ⟨(some 81), .fieldAddr 1 (.tmp 80), none⟩, ⟨none, .store 1 (.tmp 81) (.const (.p (.bool true))), none⟩])
 (.seq (.region [⟨(some 2), .mv (.const (.p (.int .u64 0))), none⟩])
 (.ret [false, false, true, false, false, false, false, false, false, false, false, false, false, false, false, false, false, false, false, false, false, false, false, false, false, false, false, false, false, false, false, false, false, false, false, false, false, false, false, false, false, false, false, false, false, false, false, false, false, false, false, false, false, false, false, false, false, false, false, false, false, false, false, false, false, false, false, false, false, false, false, false, false, false, false, false, false, false, false, false, false, false])))))⟩
theorem cf35 : compF Try.prog (fun _ _ => false) Try.f35 = some lf35 := by kernel_rfl
theorem fr35 : FR Try.prog 35 lf35 := compF_sound (by kernel_rfl) Try.func35 (by kernel_rfl) cf35

def lf36 : LFn := ⟨20, [.tmp 4],
 .seq (.region [⟨(some 4), .mv (.const (.tight [])), none⟩])
 (.seq (.block 0 [true, true, false, false, false, false, false, false, false, false, false, false, false, false, false, false, false, false, false, false] (.loop [true, true, false, false, false, false, false, false, false, false, false, false, false, false, false, false, false, false, false, false] (.seq (.seq (.region [⟨(some 5), .mv (.tmp 1), none⟩, ⟨(some 6), .bin .geq (.tmp 5) (.const (.p (.int .u64 128))), none⟩])
 (.cond (.tmp 6) (.skip)
 (.exit 0 [true, true, false, false, false, false, false, false, false, false, false, false, false, false, false, false, false, false, false, false])))
 (.seq (.block 1 [true, true, false, false, false, false, false, false, false, false, false, false, false, false, false, false, false, false, false, false] (.region [⟨(some 9), .mv (.tmp 0), none⟩, ⟨(some 10), .mv (.tmp 1), none⟩, ⟨(some 11), .cv (.int .u8) (.tmp 10), none⟩, ⟨(some 12), .bin .or (.tmp 11) (.const (.p (.int .u8 128))), none⟩, ⟨(some 13), .mkrow false 1 1 [(.p (.int .u8 0))] [(0, (.tmp 12))], none⟩, ⟨(some 14), .append false 1 1 (.tmp 9) (.tmp 13), none⟩, ⟨(some 0), .mv (.tmp 14), none⟩]))
 (.region [⟨(some 7), .mv (.tmp 1), none⟩, ⟨(some 8), .bin .shr (.tmp 7) (.const (.p (.int .u64 7))), none⟩, ⟨(some 1), .mv (.tmp 8), none⟩])))))
 (.seq (.region [⟨(some 15), .mv (.tmp 0), none⟩, ⟨(some 16), .mv (.tmp 1), none⟩, ⟨(some 17), .cv (.int .u8) (.tmp 16), none⟩, ⟨(some 18), .mkrow false 1 1 [(.p (.int .u8 0))] [(0, (.tmp 17))], none⟩, ⟨(some 19), .append false 1 1 (.tmp 15) (.tmp 18), none⟩, ⟨(some 4), .mv (.tmp 19), none⟩])
 (.ret [false, false, false, false, true, false, false, false, false, false, false, false, false, false, false, false, false, false, false, false])))⟩
theorem cf36 : compF Try.prog (fun _ _ => false) Try.f36 = some lf36 := by kernel_rfl
theorem fr36 : FR Try.prog 36 lf36 := compF_sound (by kernel_rfl) Try.func36 (by kernel_rfl) cf36

def lf37 : LFn := ⟨11, [.tmp 2],
 .seq (.region [⟨(some 2), .mv (.const (.p (.int .u32 0))), none⟩])
 (.seq (.seq (.region [⟨(some 3), .mv (.tmp 0), none⟩, ⟨(some 4), .bin .and (.tmp 3) (.const (.p (.int .u32 1))), none⟩, ⟨(some 5), .bin .eql (.tmp 4) (.const (.p (.int .u32 1))), none⟩])
 (.cond (.tmp 5) (.seq (.region [⟨(some 6), .mv (.tmp 0), none⟩, ⟨(some 7), .bin .shr (.tmp 6) (.const (.p (.int .u64 1))), none⟩, ⟨(some 8), .bin .xor (.tmp 7) (.const (.p (.int .u32 3988292384))), none⟩, ⟨(some 2), .mv (.tmp 8), none⟩])
 (.ret [false, false, true, false, false, false, false, false, false, false, false]))
 (.skip)))
 (.seq (.region [⟨(some 9), .mv (.tmp 0), none⟩, ⟨(some 10), .bin .shr (.tmp 9) (.const (.p (.int .u64 1))), none⟩, ⟨(some 2), .mv (.tmp 10), none⟩])
 (.ret [false, false, true, false, false, false, false, false, false, false, false])))⟩
theorem cf37 : compF Try.prog (fun _ _ => false) Try.f37 = some lf37 := by kernel_rfl
theorem fr37 : FR Try.prog 37 lf37 := compF_sound (by kernel_rfl) Try.func37 (by kernel_rfl) cf37

def lf38 : LFn := ⟨19, [.tmp 4],
 .seq (.region [⟨(some 4), .mv (.const (.p (.int .i64 0))), none⟩])
 (.seq (.seq (.region [⟨(some 6), .mv (.tmp 0), none⟩, ⟨(some 7), .len (.tmp 6), none⟩, ⟨(some 8), .mv (.const (.p (.int .i64 0))), none⟩])
 (.block 0 [false, false, false, false, false, false, false, false, false, false, false, false, false, false, false, false, false, false, false] (.loop [true, true, false, false, false, false, false, true, true, false, false, false, false, false, false, false, false, false, false] (.seq (.region [⟨(some 9), .bin .lss (.tmp 8) (.tmp 7), none⟩])
 (.seq (.cond (.tmp 9) (.skip)
 (.exit 0 [false, false, false, false, false, false, false, false, false, false, false, false, false, false, false, false, false, false, false]))
 (.seq (.block 1 [true, true, false, false, false, false, false, true, true, false, false, false, false, false, false, false, false, false, false] (.seq (.region [⟨(some 10), .mv (.tmp 8), none⟩, ⟨(some 5), .mv (.tmp 10), none⟩])
 (.seq (.region [⟨(some 11), .mv (.tmp 1), none⟩, ⟨(some 12), .mv (.tmp 0), none⟩, ⟨(some 13), .mv (.tmp 5), none⟩, ⟨(some 14), .indexAddr 1 (.tmp 12) (.tmp 13), none⟩, ⟨(some 15), .load false 1 (.tmp 14), none⟩, ⟨(some 16), .callv (.tmp 11) [(.tmp 15)], none⟩])
 (.cond (.tmp 16) (.seq (.region [⟨(some 17), .mv (.tmp 5), none⟩, ⟨(some 4), .mv (.tmp 17), none⟩])
 (.ret [false, false, false, false, true, false, false, false, false, false, false, false, false, false, false, false, false, false, false]))
 (.skip)))))
 (.region [⟨(some 18), .bin .add (.tmp 8) (.const (.p (.int .i64 1))), none⟩, ⟨(some 8), .mv (.tmp 18), none⟩])))))))
 (.seq (.region [⟨(some 4), .mv (.const (.p (.int .i64 (-1)))), none⟩])
 (.ret [false, false, false, false, true, false, false, false, false, false, false, false, false, false, false, false, false, false, false])))⟩
theorem cf38 : compF Try.prog (fun _ _ => false) Try.f38 = some lf38 := by kernel_rfl
theorem fr38 : FR Try.prog 38 lf38 := compF_sound (by kernel_rfl) Try.func38 (by kernel_rfl) cf38

end Go.Proofs.Ytmfdjhflhhaodaa
