import Derived.Test.YtopbbbhhbnghpaaGreatDoorLsG5
import Derived.Test.YtopbbbhhbnghpaaGreatDoorProg
import Derived.KernelRfl
import Derived.Lib.Strings
import Derived.Lib.Slices
import Derived.Lib.Walk
import Derived.Lib.Bytealg
set_option maxRecDepth 100000
namespace Go.Proofs.YtopbbbhhbnghpaaGreatDoor
open Go Go.LS
set_option maxHeartbeats 1000000 in
theorem sum441 (s : ByteArray) (c : Int) (w : World) : Calls Tryz.prog 441 #[.string s, .int .u8 c] w fun e w' => e = .returned (.int .i64 (Lib.indexByte s.data.toList c.toNat.toUInt8)) ∧ w' = w := by
  go_enter Tryz.func441, Tryz.ntmps441
  go_wp2
  rw [run_callFunc_extern Tryz.func520 (by kernel_rfl) (by kernel_rfl) (by kernel_rfl) (e := Extern.BytealgIndexByte.indexByte) (by kernel_rfl), Lib.run_indexByteString]
  simp only [Result.andThen]
  rw [Oper.upon_value]
  go_wp2
  go_ret
  exact ⟨rfl, rfl⟩
theorem so441 : SummOK Tryz.prog 441 sIndexByte := sIndexByte_ok (by kernel_rfl) sum441
set_option maxHeartbeats 1000000 in
theorem sum598 (a b : ByteArray) (w : World) : Calls Tryz.prog 598 #[.string a, .string b] w fun e w' => e = .returned (.int .i64 (Lib.compareBytes a.data.toList b.data.toList)) ∧ w' = w := by
  go_enter Tryz.func598, Tryz.ntmps598
  go_wp2
  rw [run_callFunc_extern Tryz.func628 (by kernel_rfl) (by kernel_rfl) (by kernel_rfl) (e := Extern.BytealgCompare.compare) (by kernel_rfl), Lib.run_compareString]
  simp only [Result.andThen]
  rw [Oper.upon_value]
  go_wp2
  go_ret
  exact ⟨rfl, rfl⟩
theorem so598 : SummOK Tryz.prog 598 sCompare := sCompare_ok (by kernel_rfl) sum598
end Go.Proofs.YtopbbbhhbnghpaaGreatDoor
