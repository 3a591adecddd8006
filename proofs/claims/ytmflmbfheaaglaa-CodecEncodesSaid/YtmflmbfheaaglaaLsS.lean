import Derived.Test.YtmflmbfheaaglaaLsG5
import Derived.Test.YtmflmbfheaaglaaProg
import Derived.KernelRfl
import Derived.Lib.Strings
import Derived.Lib.Slices
import Derived.Lib.Walk
import Derived.Lib.Bytealg
set_option maxRecDepth 100000
namespace Go.Proofs.Ytmflmbfheaaglaa
open Go Go.LS
set_option maxHeartbeats 1000000 in
theorem sum72 (s : ByteArray) (c : Int) (w : World) : Calls Try.prog 72 #[.string s, .int .u8 c] w fun e w' => e = .returned (.int .i64 (Lib.indexByte s.data.toList c.toNat.toUInt8)) ∧ w' = w := by
  go_enter Try.func72, Try.ntmps72
  go_wp2
  rw [run_callFunc_extern Try.func76 (by kernel_rfl) (by kernel_rfl) (by kernel_rfl) (e := Extern.BytealgIndexByte.indexByte) (by kernel_rfl), Lib.run_indexByteString]
  simp only [Result.andThen]
  rw [Oper.upon_value]
  go_wp2
  go_ret
  exact ⟨rfl, rfl⟩
theorem so72 : SummOK Try.prog 72 sIndexByte := sIndexByte_ok (by kernel_rfl) sum72
end Go.Proofs.Ytmflmbfheaaglaa
