import Derived.Test.YtpkmddkodchanaaLsG5
import Derived.Test.YtpkmddkodchanaaProg
import Derived.KernelRfl
import Derived.Lib.Strings
import Derived.Lib.Slices
import Derived.Lib.Walk
import Derived.Lib.Bytealg
set_option maxRecDepth 100000
namespace Go.Proofs.Ytpkmddkodchanaa
open Go Go.LS
set_option maxHeartbeats 1000000 in
theorem sum68 (s : ByteArray) (c : Int) (w : World) : Calls Try.prog 68 #[.string s, .int .u8 c] w fun e w' => e = .returned (.int .i64 (Lib.indexByte s.data.toList c.toNat.toUInt8)) ∧ w' = w := by
  go_enter Try.func68, Try.ntmps68
  go_wp2
  rw [run_callFunc_extern Try.func72 (by kernel_rfl) (by kernel_rfl) (by kernel_rfl) (e := Extern.BytealgIndexByte.indexByte) (by kernel_rfl), Lib.run_indexByteString]
  simp only [Result.andThen]
  rw [Oper.upon_value]
  go_wp2
  go_ret
  exact ⟨rfl, rfl⟩
theorem so68 : SummOK Try.prog 68 sIndexByte := sIndexByte_ok (by kernel_rfl) sum68
end Go.Proofs.Ytpkmddkodchanaa
