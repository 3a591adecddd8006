import Derived.Test.YthmjaeflpgcmdaaLsG5
import Derived.Shelf.SlIter.Nil
import Derived.Shelf.SlIter.Sorted
import Derived.Shelf.SortM.Plain
import Derived.Shelf.SortM.SortNone
import Derived.Shelf.SlMaps.Clone
import Derived.Test.YthmjaeflpgcmdaaProg
namespace Go.Proofs
open Go.Shelf
def Try.keys39_ren : Go.Shelf.Ren := ⟨fun | 7 => 39 | 10 => 63 | n => n, fun | 23 => 61 | 26 => 9 | 3 => 70 | 28 => 78 | 0 => 0 | 27 => 77 | 33 => 64 | 4 => 4 | n => n, fun | n => n⟩
theorem Try.keys39 : Go.Proofs.SlLaysZ.n7 Try.prog Try.keys39_ren := {
 mixed := by kernel_rfl
 f7 := ⟨Try.f39.name, by decide, Try.func39.trans (congrArg some (by kernel_rfl))⟩
 f10 := ⟨Try.f63.name, by decide, Try.func63.trans (congrArg some (by kernel_rfl))⟩
 t0 := Try.underlying0
 a0 := Try.isAgg0
 z0 := Try.sizeOf0
 v0 := Try.zeroValue0
 t4 := Try.underlying4
 a4 := Try.isAgg4
 z4 := Try.sizeOf4
 v4 := Try.zeroValue4
 t23 := Try.underlying61
 a23 := Try.isAgg61
 z23 := Try.sizeOf61
 v23 := Try.zeroValue61
 t26 := Try.underlying9
 a26 := Try.isAgg9
 z26 := Try.sizeOf9
 v26 := Try.zeroValue9
 t27 := Try.underlying77
 a27 := Try.isAgg77
 z27 := Try.sizeOf77
 v27 := Try.zeroValue77
 t28 := Try.underlying78
 a28 := Try.isAgg78
 z28 := Try.sizeOf78
 v28 := Try.zeroValue78
 t33 := Try.underlying64
 a33 := Try.isAgg64
 z33 := Try.sizeOf64
 v33 := Try.zeroValue64 }
def Try.sorted38_ren : Go.Shelf.Ren := ⟨fun | 6 => 38 | 8 => 61 | 9 => 62 | 11 => 78 | 13 => 80 | 12 => 79 | 23 => 92 | 24 => 93 | 14 => 83 | 15 => 84 | 16 => 85 | 17 => 86 | 18 => 87 | 19 => 88 | 20 => 89 | 21 => 90 | 22 => 91 | 25 => 94 | 26 => 95 | 27 => 96 | 28 => 97 | 29 => 98 | 30 => 99 | 31 => 100 | n => n, fun | 26 => 9 | 28 => 78 | 24 => 48 | 0 => 0 | 3 => 3 | 37 => 83 | 48 => 110 | 50 => 81 | 4 => 4 | 40 => 114 | 39 => 113 | 45 => 119 | 5 => 5 | 9 => 9 | 51 => 123 | 55 => 127 | 57 => 129 | 58 => 130 | 33 => 64 | n => n, fun | n => n⟩
theorem Try.sorted38 : Go.Proofs.SlLaysZ.n6 Try.prog Try.sorted38_ren := {
 mixed := by kernel_rfl
 f6 := ⟨Try.f38.name, by decide, Try.func38.trans (congrArg some (by kernel_rfl))⟩
 f8 := ⟨Try.f61.name, by decide, Try.func61.trans (congrArg some (by kernel_rfl))⟩
 f11 := ⟨Try.f78.name, by decide, Try.func78.trans (congrArg some (by kernel_rfl))⟩
 t0 := Try.underlying0
 a0 := Try.isAgg0
 z0 := Try.sizeOf0
 v0 := Try.zeroValue0
 t24 := Try.underlying48
 a24 := Try.isAgg48
 z24 := Try.sizeOf48
 v24 := Try.zeroValue48
 t26 := Try.underlying9
 a26 := Try.isAgg9
 z26 := Try.sizeOf9
 v26 := Try.zeroValue9
 t28 := Try.underlying78
 a28 := Try.isAgg78
 z28 := Try.sizeOf78
 v28 := Try.zeroValue78
 i26 := by kernel_rfl }
def Try.sort62_ren : Go.Shelf.Ren := ⟨fun | 6 => 62 | 8 => 80 | 9 => 79 | 19 => 92 | 20 => 93 | 21 => 83 | 22 => 84 | 23 => 85 | 24 => 86 | 25 => 87 | 26 => 88 | 27 => 89 | 28 => 90 | 29 => 91 | 36 => 94 | 31 => 95 | 32 => 96 | 37 => 97 | 38 => 98 | 39 => 99 | 41 => 100 | n => n, fun | 27 => 48 | 29 => 9 | 3 => 3 | 32 => 83 | 26 => 48 | 0 => 0 | 44 => 110 | 46 => 81 | 4 => 4 | 36 => 114 | 35 => 113 | 41 => 119 | 5 => 5 | 9 => 9 | 53 => 123 | 57 => 127 | 63 => 129 | 64 => 130 | n => n, fun | n => n⟩
theorem Try.sort62 : Go.Proofs.SlLaysM.n6 Try.prog Try.sort62_ren := {
 mixed := by kernel_rfl
 f6 := ⟨Try.f62.name, by decide, Try.func62.trans (congrArg some (by kernel_rfl))⟩
 f8 := Try.func80.trans (congrArg some (by kernel_rfl))
 f9 := ⟨Try.f79.name, by decide, Try.func79.trans (congrArg some (by kernel_rfl))⟩
 f19 := Try.func92.trans (congrArg some (by kernel_rfl))
 f20 := Try.func93.trans (congrArg some (by kernel_rfl))
 f21 := ⟨Try.f83.name, by decide, Try.func83.trans (congrArg some (by kernel_rfl))⟩
 f22 := ⟨Try.f84.name, by decide, Try.func84.trans (congrArg some (by kernel_rfl))⟩
 f23 := ⟨Try.f85.name, by decide, Try.func85.trans (congrArg some (by kernel_rfl))⟩
 f24 := ⟨Try.f86.name, by decide, Try.func86.trans (congrArg some (by kernel_rfl))⟩
 f25 := ⟨Try.f87.name, by decide, Try.func87.trans (congrArg some (by kernel_rfl))⟩
 f26 := ⟨Try.f88.name, by decide, Try.func88.trans (congrArg some (by kernel_rfl))⟩
 f27 := ⟨Try.f89.name, by decide, Try.func89.trans (congrArg some (by kernel_rfl))⟩
 f28 := ⟨Try.f90.name, by decide, Try.func90.trans (congrArg some (by kernel_rfl))⟩
 f29 := ⟨Try.f91.name, by decide, Try.func91.trans (congrArg some (by kernel_rfl))⟩
 f31 := Try.func95.trans (congrArg some (by kernel_rfl))
 f32 := Try.func96.trans (congrArg some (by kernel_rfl))
 f36 := ⟨Try.f94.name, by decide, Try.func94.trans (congrArg some (by kernel_rfl))⟩
 f37 := ⟨Try.f97.name, by decide, Try.func97.trans (congrArg some (by kernel_rfl))⟩
 f38 := ⟨Try.f98.name, by decide, Try.func98.trans (congrArg some (by kernel_rfl))⟩
 f39 := ⟨Try.f99.name, by decide, Try.func99.trans (congrArg some (by kernel_rfl))⟩
 f41 := ⟨Try.f100.name, by decide, Try.func100.trans (congrArg some (by kernel_rfl))⟩
 t0 := Try.underlying0
 a0 := Try.isAgg0
 z0 := Try.sizeOf0
 v0 := Try.zeroValue0
 t3 := Try.underlying3
 a3 := Try.isAgg3
 z3 := Try.sizeOf3
 v3 := Try.zeroValue3
 t4 := Try.underlying4
 a4 := Try.isAgg4
 z4 := Try.sizeOf4
 v4 := Try.zeroValue4
 t5 := Try.underlying5
 a5 := Try.isAgg5
 z5 := Try.sizeOf5
 v5 := Try.zeroValue5
 t9 := Try.underlying9
 a9 := Try.isAgg9
 z9 := Try.sizeOf9
 v9 := Try.zeroValue9
 t26 := Try.underlying48
 a26 := Try.isAgg48
 z26 := Try.sizeOf48
 v26 := Try.zeroValue48
 t27 := Try.underlying48
 a27 := Try.isAgg48
 z27 := Try.sizeOf48
 v27 := Try.zeroValue48
 t29 := Try.underlying9
 a29 := Try.isAgg9
 z29 := Try.sizeOf9
 v29 := Try.zeroValue9
 t32 := Try.underlying83
 a32 := Try.isAgg83
 z32 := Try.sizeOf83
 v32 := Try.zeroValue83
 t35 := Try.underlying113
 a35 := Try.isAgg113
 z35 := Try.sizeOf113
 v35 := Try.zeroValue113
 t36 := Try.underlying114
 a36 := Try.isAgg114
 z36 := Try.sizeOf114
 v36 := Try.zeroValue114
 t41 := Try.underlying119
 a41 := Try.isAgg119
 z41 := Try.sizeOf119
 v41 := Try.zeroValue119
 t44 := Try.underlying110
 a44 := Try.isAgg110
 z44 := Try.sizeOf110
 v44 := Try.zeroValue110
 t46 := Try.underlying81
 a46 := Try.isAgg81
 z46 := Try.sizeOf81
 v46 := Try.zeroValue81
 t53 := Try.underlying123
 a53 := Try.isAgg123
 z53 := Try.sizeOf123
 v53 := Try.zeroValue123
 t57 := Try.underlying127
 a57 := Try.isAgg127
 z57 := Try.sizeOf127
 v57 := Try.zeroValue127
 t63 := Try.underlying129
 a63 := Try.isAgg129
 z63 := Try.sizeOf129
 v63 := Try.zeroValue129
 t64 := Try.underlying130
 a64 := Try.isAgg130
 z64 := Try.sizeOf130
 v64 := Try.zeroValue130 }
end Go.Proofs
namespace Go.Proofs.Ythmjaeflpgcmdaa
open Go Go.LS Go.RowKit Go.Maps Go.Sort Go.Shelf Go.Proofs
theorem Vl (m : Nat) : AnyZ.SortsIn Try.prog Try.sorted38_ren Fence.wide m :=
 ⟨fun blk off cap ss W hH hblk hsz => callsIn_wide.2 (AnyM.slices_Sort_string Try.sort62 blk off cap ss W hH hblk hsz),
  fun p cap W => callsIn_wide.2 (AnyM.slices_Sort_string_none Try.sort62 p cap W)⟩
theorem Lp : K6 Try.prog 38 63 (Try.keys39_ren.t 26) := by
 intro Bm b w D0 hBm hm hown hmax hbytes
 have hseq : SeqGives Fence.wide 2 Try.prog 63 #[.pointer (some ⟨Bm, 0, none⟩)] encStr (fun ss => ss.Perm (strKeys D0)) (Maps.size D0) w :=
  AnyZ.keys_gives (ρ := Try.keys39_ren) { Try.keys39 with } Fence.wide _ trivial rfl (by omega) Bm b _ D0 w hBm hm hown
 exact callsIn_wide.1 (AnyZ.sorted_in Try.sorted38 Fence.wide 5 trivial trivial trivial trivial rfl (by omega) (Vl _) (enters_of Try.func62 (by kernel_rfl) rfl) 63 #[.pointer (some ⟨Bm, 0, none⟩)] trivial (enters_of Try.func63 (by kernel_rfl) rfl) _ _ hmax hbytes _ hseq)
theorem Z0 : Fv Try.prog 38 (E5 63) := Tk (by kernel_rfl) (by kernel_rfl) Lp
theorem so38 : Fv Try.prog 38 (E5 63) := Z0
end Go.Proofs.Ythmjaeflpgcmdaa
