import Derived.Test.YtopbbbhhbnghpaaGreatDoorLsG5
import Derived.Shelf.SlIter.Nil
import Derived.Shelf.SlIter.Sorted
import Derived.Shelf.SortM.Plain
import Derived.Shelf.SortM.SortNone
import Derived.Shelf.SlMaps.Clone
import Derived.Test.YtopbbbhhbnghpaaGreatDoorProg
namespace Go.Proofs
open Go.Shelf
def Tryz.keys262_ren : Go.Shelf.Ren := ⟨fun | 7 => 262 | 10 => 345 | n => n, fun | 23 => 280 | 26 => 9 | 3 => 284 | 28 => 357 | 0 => 0 | 27 => 356 | 33 => 42 | 4 => 4 | n => n, fun | n => n⟩
theorem Tryz.keys262 : Go.Proofs.SlLaysZ.n7 Tryz.prog Tryz.keys262_ren := {
  mixed := by kernel_rfl
  f7 := ⟨Tryz.f262.name, by decide, Tryz.func262.trans (congrArg some (by kernel_rfl))⟩
  f10 := ⟨Tryz.f345.name, by decide, Tryz.func345.trans (congrArg some (by kernel_rfl))⟩
  t0 := Tryz.underlying0
  a0 := Tryz.isAgg0
  z0 := Tryz.sizeOf0
  v0 := Tryz.zeroValue0
  t4 := Tryz.underlying4
  a4 := Tryz.isAgg4
  z4 := Tryz.sizeOf4
  v4 := Tryz.zeroValue4
  t23 := Tryz.underlying280
  a23 := Tryz.isAgg280
  z23 := Tryz.sizeOf280
  v23 := Tryz.zeroValue280
  t26 := Tryz.underlying9
  a26 := Tryz.isAgg9
  z26 := Tryz.sizeOf9
  v26 := Tryz.zeroValue9
  t27 := Tryz.underlying356
  a27 := Tryz.isAgg356
  z27 := Tryz.sizeOf356
  v27 := Tryz.zeroValue356
  t28 := Tryz.underlying357
  a28 := Tryz.isAgg357
  z28 := Tryz.sizeOf357
  v28 := Tryz.zeroValue357
  t33 := Tryz.underlying42
  a33 := Tryz.isAgg42
  z33 := Tryz.sizeOf42
  v33 := Tryz.zeroValue42 }
def Tryz.sorted261_ren : Go.Shelf.Ren := ⟨fun | 6 => 261 | 8 => 290 | 9 => 344 | 11 => 375 | 13 => 435 | 12 => 434 | 23 => 517 | 24 => 518 | 14 => 508 | 15 => 509 | 16 => 510 | 17 => 511 | 18 => 512 | 19 => 513 | 20 => 514 | 21 => 515 | 22 => 516 | 25 => 564 | 26 => 565 | 27 => 566 | 28 => 567 | 29 => 568 | 30 => 569 | 31 => 597 | n => n, fun | 26 => 9 | 28 => 357 | 24 => 24 | 0 => 0 | 3 => 3 | 37 => 106 | 48 => 156 | 50 => 103 | 4 => 4 | 40 => 510 | 39 => 509 | 45 => 479 | 5 => 5 | 9 => 9 | 51 => 545 | 55 => 486 | 57 => 567 | 58 => 173 | 33 => 42 | n => n, fun | n => n⟩
theorem Tryz.sorted261 : Go.Proofs.SlLaysZ.n6 Tryz.prog Tryz.sorted261_ren := {
  mixed := by kernel_rfl
  f6 := ⟨Tryz.f261.name, by decide, Tryz.func261.trans (congrArg some (by kernel_rfl))⟩
  f8 := ⟨Tryz.f290.name, by decide, Tryz.func290.trans (congrArg some (by kernel_rfl))⟩
  f11 := ⟨Tryz.f375.name, by decide, Tryz.func375.trans (congrArg some (by kernel_rfl))⟩
  t0 := Tryz.underlying0
  a0 := Tryz.isAgg0
  z0 := Tryz.sizeOf0
  v0 := Tryz.zeroValue0
  t24 := Tryz.underlying24
  a24 := Tryz.isAgg24
  z24 := Tryz.sizeOf24
  v24 := Tryz.zeroValue24
  t26 := Tryz.underlying9
  a26 := Tryz.isAgg9
  z26 := Tryz.sizeOf9
  v26 := Tryz.zeroValue9
  t28 := Tryz.underlying357
  a28 := Tryz.isAgg357
  z28 := Tryz.sizeOf357
  v28 := Tryz.zeroValue357
  i26 := by kernel_rfl }
def Tryz.sort344_ren : Go.Shelf.Ren := ⟨fun | 6 => 344 | 8 => 435 | 9 => 434 | 19 => 517 | 20 => 518 | 21 => 508 | 22 => 509 | 23 => 510 | 24 => 511 | 25 => 512 | 26 => 513 | 27 => 514 | 28 => 515 | 29 => 516 | 36 => 564 | 31 => 565 | 32 => 566 | 37 => 567 | 38 => 568 | 39 => 569 | 41 => 597 | n => n, fun | 27 => 24 | 29 => 9 | 3 => 3 | 32 => 106 | 26 => 24 | 0 => 0 | 44 => 156 | 46 => 103 | 4 => 4 | 36 => 510 | 35 => 509 | 41 => 479 | 5 => 5 | 9 => 9 | 53 => 545 | 57 => 486 | 63 => 567 | 64 => 173 | n => n, fun | n => n⟩
theorem Tryz.sort344 : Go.Proofs.SlLaysM.n6 Tryz.prog Tryz.sort344_ren := {
  mixed := by kernel_rfl
  f6 := ⟨Tryz.f344.name, by decide, Tryz.func344.trans (congrArg some (by kernel_rfl))⟩
  f8 := Tryz.func435.trans (congrArg some (by kernel_rfl))
  f9 := ⟨Tryz.f434.name, by decide, Tryz.func434.trans (congrArg some (by kernel_rfl))⟩
  f19 := Tryz.func517.trans (congrArg some (by kernel_rfl))
  f20 := Tryz.func518.trans (congrArg some (by kernel_rfl))
  f21 := ⟨Tryz.f508.name, by decide, Tryz.func508.trans (congrArg some (by kernel_rfl))⟩
  f22 := ⟨Tryz.f509.name, by decide, Tryz.func509.trans (congrArg some (by kernel_rfl))⟩
  f23 := ⟨Tryz.f510.name, by decide, Tryz.func510.trans (congrArg some (by kernel_rfl))⟩
  f24 := ⟨Tryz.f511.name, by decide, Tryz.func511.trans (congrArg some (by kernel_rfl))⟩
  f25 := ⟨Tryz.f512.name, by decide, Tryz.func512.trans (congrArg some (by kernel_rfl))⟩
  f26 := ⟨Tryz.f513.name, by decide, Tryz.func513.trans (congrArg some (by kernel_rfl))⟩
  f27 := ⟨Tryz.f514.name, by decide, Tryz.func514.trans (congrArg some (by kernel_rfl))⟩
  f28 := ⟨Tryz.f515.name, by decide, Tryz.func515.trans (congrArg some (by kernel_rfl))⟩
  f29 := ⟨Tryz.f516.name, by decide, Tryz.func516.trans (congrArg some (by kernel_rfl))⟩
  f31 := Tryz.func565.trans (congrArg some (by kernel_rfl))
  f32 := Tryz.func566.trans (congrArg some (by kernel_rfl))
  f36 := ⟨Tryz.f564.name, by decide, Tryz.func564.trans (congrArg some (by kernel_rfl))⟩
  f37 := ⟨Tryz.f567.name, by decide, Tryz.func567.trans (congrArg some (by kernel_rfl))⟩
  f38 := ⟨Tryz.f568.name, by decide, Tryz.func568.trans (congrArg some (by kernel_rfl))⟩
  f39 := ⟨Tryz.f569.name, by decide, Tryz.func569.trans (congrArg some (by kernel_rfl))⟩
  f41 := ⟨Tryz.f597.name, by decide, Tryz.func597.trans (congrArg some (by kernel_rfl))⟩
  t0 := Tryz.underlying0
  a0 := Tryz.isAgg0
  z0 := Tryz.sizeOf0
  v0 := Tryz.zeroValue0
  t3 := Tryz.underlying3
  a3 := Tryz.isAgg3
  z3 := Tryz.sizeOf3
  v3 := Tryz.zeroValue3
  t4 := Tryz.underlying4
  a4 := Tryz.isAgg4
  z4 := Tryz.sizeOf4
  v4 := Tryz.zeroValue4
  t5 := Tryz.underlying5
  a5 := Tryz.isAgg5
  z5 := Tryz.sizeOf5
  v5 := Tryz.zeroValue5
  t9 := Tryz.underlying9
  a9 := Tryz.isAgg9
  z9 := Tryz.sizeOf9
  v9 := Tryz.zeroValue9
  t26 := Tryz.underlying24
  a26 := Tryz.isAgg24
  z26 := Tryz.sizeOf24
  v26 := Tryz.zeroValue24
  t27 := Tryz.underlying24
  a27 := Tryz.isAgg24
  z27 := Tryz.sizeOf24
  v27 := Tryz.zeroValue24
  t29 := Tryz.underlying9
  a29 := Tryz.isAgg9
  z29 := Tryz.sizeOf9
  v29 := Tryz.zeroValue9
  t32 := Tryz.underlying106
  a32 := Tryz.isAgg106
  z32 := Tryz.sizeOf106
  v32 := Tryz.zeroValue106
  t35 := Tryz.underlying509
  a35 := Tryz.isAgg509
  z35 := Tryz.sizeOf509
  v35 := Tryz.zeroValue509
  t36 := Tryz.underlying510
  a36 := Tryz.isAgg510
  z36 := Tryz.sizeOf510
  v36 := Tryz.zeroValue510
  t41 := Tryz.underlying479
  a41 := Tryz.isAgg479
  z41 := Tryz.sizeOf479
  v41 := Tryz.zeroValue479
  t44 := Tryz.underlying156
  a44 := Tryz.isAgg156
  z44 := Tryz.sizeOf156
  v44 := Tryz.zeroValue156
  t46 := Tryz.underlying103
  a46 := Tryz.isAgg103
  z46 := Tryz.sizeOf103
  v46 := Tryz.zeroValue103
  t53 := Tryz.underlying545
  a53 := Tryz.isAgg545
  z53 := Tryz.sizeOf545
  v53 := Tryz.zeroValue545
  t57 := Tryz.underlying486
  a57 := Tryz.isAgg486
  z57 := Tryz.sizeOf486
  v57 := Tryz.zeroValue486
  t63 := Tryz.underlying567
  a63 := Tryz.isAgg567
  z63 := Tryz.sizeOf567
  v63 := Tryz.zeroValue567
  t64 := Tryz.underlying173
  a64 := Tryz.isAgg173
  z64 := Tryz.sizeOf173
  v64 := Tryz.zeroValue173 }
def Tryz.keys452_ren : Go.Shelf.Ren := ⟨fun | 7 => 452 | 10 => 529 | n => n, fun | 23 => 165 | 26 => 9 | 3 => 326 | 28 => 357 | 0 => 0 | 27 => 356 | 33 => 42 | 4 => 4 | n => n, fun | n => n⟩
theorem Tryz.keys452 : Go.Proofs.SlLaysZ.n7 Tryz.prog Tryz.keys452_ren := {
  mixed := by kernel_rfl
  f7 := ⟨Tryz.f452.name, by decide, Tryz.func452.trans (congrArg some (by kernel_rfl))⟩
  f10 := ⟨Tryz.f529.name, by decide, Tryz.func529.trans (congrArg some (by kernel_rfl))⟩
  t0 := Tryz.underlying0
  a0 := Tryz.isAgg0
  z0 := Tryz.sizeOf0
  v0 := Tryz.zeroValue0
  t4 := Tryz.underlying4
  a4 := Tryz.isAgg4
  z4 := Tryz.sizeOf4
  v4 := Tryz.zeroValue4
  t23 := Tryz.underlying165
  a23 := Tryz.isAgg165
  z23 := Tryz.sizeOf165
  v23 := Tryz.zeroValue165
  t26 := Tryz.underlying9
  a26 := Tryz.isAgg9
  z26 := Tryz.sizeOf9
  v26 := Tryz.zeroValue9
  t27 := Tryz.underlying356
  a27 := Tryz.isAgg356
  z27 := Tryz.sizeOf356
  v27 := Tryz.zeroValue356
  t28 := Tryz.underlying357
  a28 := Tryz.isAgg357
  z28 := Tryz.sizeOf357
  v28 := Tryz.zeroValue357
  t33 := Tryz.underlying42
  a33 := Tryz.isAgg42
  z33 := Tryz.sizeOf42
  v33 := Tryz.zeroValue42 }
def Tryz.clone175_ren : Go.Shelf.Ren := ⟨fun | 5 => 175 | 7 => 260 | n => n, fun | 23 => 212 | 25 => 3 | 3 => 3 | 4 => 4 | 20 => 20 | n => n, fun | n => n⟩
theorem Tryz.clone175 : Go.Proofs.SlLaysW.n5 Tryz.prog Tryz.clone175_ren := {
  mixed := by kernel_rfl
  f5 := ⟨Tryz.f175.name, by decide, Tryz.func175.trans (congrArg some (by kernel_rfl))⟩
  f7 := Tryz.func260.trans (congrArg some (by kernel_rfl))
  t4 := Tryz.underlying4
  a4 := Tryz.isAgg4
  z4 := Tryz.sizeOf4
  v4 := Tryz.zeroValue4
  t20 := Tryz.underlying20
  a20 := Tryz.isAgg20
  z20 := Tryz.sizeOf20
  v20 := Tryz.zeroValue20
  t23 := Tryz.underlying212
  a23 := Tryz.isAgg212
  z23 := Tryz.sizeOf212
  v23 := Tryz.zeroValue212 }
def Tryz.clone258_ren : Go.Shelf.Ren := ⟨fun | 5 => 258 | 7 => 260 | n => n, fun | 23 => 280 | 25 => 9 | 3 => 284 | 4 => 4 | 20 => 20 | n => n, fun | n => n⟩
theorem Tryz.clone258 : Go.Proofs.SlLaysW.n5 Tryz.prog Tryz.clone258_ren := {
  mixed := by kernel_rfl
  f5 := ⟨Tryz.f258.name, by decide, Tryz.func258.trans (congrArg some (by kernel_rfl))⟩
  f7 := Tryz.func260.trans (congrArg some (by kernel_rfl))
  t4 := Tryz.underlying4
  a4 := Tryz.isAgg4
  z4 := Tryz.sizeOf4
  v4 := Tryz.zeroValue4
  t20 := Tryz.underlying20
  a20 := Tryz.isAgg20
  z20 := Tryz.sizeOf20
  v20 := Tryz.zeroValue20
  t23 := Tryz.underlying280
  a23 := Tryz.isAgg280
  z23 := Tryz.sizeOf280
  v23 := Tryz.zeroValue280 }
end Go.Proofs
namespace Go.Proofs.YtopbbbhhbnghpaaGreatDoor
open Go Go.LS Go.RowKit Go.Maps Go.Sort Go.Shelf Go.Proofs
theorem sortsIn261 (m : Nat) : AnyZ.SortsIn Tryz.prog Tryz.sorted261_ren Fence.wide m :=
  ⟨fun blk off cap ss W hH hblk hsz => callsIn_wide.2 (AnyM.slices_Sort_string Tryz.sort344 blk off cap ss W hH hblk hsz),
   fun p cap W => callsIn_wide.2 (AnyM.slices_Sort_string_none Tryz.sort344 p cap W)⟩
theorem sortedKeys261_262 : SortedKeysC Tryz.prog 261 345 (Tryz.keys262_ren.t 26) := by
  intro Bm b w D0 hBm hm hown hmax hbytes
  have hseq : SeqGives Fence.wide 2 Tryz.prog 345 #[.pointer (some ⟨Bm, 0, none⟩)] encStr (fun ss => ss.Perm (strKeys D0)) (Maps.size D0) w :=
    AnyZ.keys_gives (ρ := Tryz.keys262_ren) { Tryz.keys262 with } Fence.wide _ trivial rfl (by omega) Bm b _ D0 w hBm hm hown
  exact callsIn_wide.1 (AnyZ.sorted_in Tryz.sorted261 Fence.wide 5 trivial trivial trivial trivial rfl (by omega) (sortsIn261 _) (enters_of Tryz.func344 (by kernel_rfl) rfl) 345 #[.pointer (some ⟨Bm, 0, none⟩)] trivial (enters_of Tryz.func345 (by kernel_rfl) rfl) _ _ hmax hbytes _ hseq)
theorem so261_262 : SummOK Tryz.prog 261 (sSorted 345) := sSorted_ok (by kernel_rfl) (by kernel_rfl) sortedKeys261_262
theorem sortedKeys261_452 : SortedKeysC Tryz.prog 261 529 (Tryz.keys452_ren.t 26) := by
  intro Bm b w D0 hBm hm hown hmax hbytes
  have hseq : SeqGives Fence.wide 2 Tryz.prog 529 #[.pointer (some ⟨Bm, 0, none⟩)] encStr (fun ss => ss.Perm (strKeys D0)) (Maps.size D0) w :=
    AnyZ.keys_gives (ρ := Tryz.keys452_ren) { Tryz.keys452 with } Fence.wide _ trivial rfl (by omega) Bm b _ D0 w hBm hm hown
  exact callsIn_wide.1 (AnyZ.sorted_in Tryz.sorted261 Fence.wide 5 trivial trivial trivial trivial rfl (by omega) (sortsIn261 _) (enters_of Tryz.func344 (by kernel_rfl) rfl) 529 #[.pointer (some ⟨Bm, 0, none⟩)] trivial (enters_of Tryz.func529 (by kernel_rfl) rfl) _ _ hmax hbytes _ hseq)
theorem so261_452 : SummOK Tryz.prog 261 (sSorted 529) := sSorted_ok (by kernel_rfl) (by kernel_rfl) sortedKeys261_452
theorem so261 : SummOK Tryz.prog 261 (sOr (sSorted 345) (sSorted 529)) := (sOr_ok so261_262 so261_452)
theorem so175 : SummOK Tryz.prog 175 sClone := sClone_ok (by kernel_rfl) (fun b es clock w hb => AnyW.maps_Clone Tryz.clone175 b es clock w hb) (fun w => AnyW.maps_Clone_nil Tryz.clone175 w)
theorem so258 : SummOK Tryz.prog 258 sClone := sClone_ok (by kernel_rfl) (fun b es clock w hb => AnyW.maps_Clone Tryz.clone258 b es clock w hb) (fun w => AnyW.maps_Clone_nil Tryz.clone258 w)
end Go.Proofs.YtopbbbhhbnghpaaGreatDoor
