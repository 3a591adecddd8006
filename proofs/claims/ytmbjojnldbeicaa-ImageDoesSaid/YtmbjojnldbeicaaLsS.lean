import Derived.Test.YtmbjojnldbeicaaLsG5
import Derived.Test.YtmbjojnldbeicaaProg
import Derived.KernelRfl
import Derived.Lib.Strings
import Derived.Lib.Slices
import Derived.Lib.Walk
import Derived.Lib.Bytealg
set_option maxRecDepth 100000
namespace Go.Proofs.Ytmbjojnldbeicaa
open Go Go.LS
set_option maxHeartbeats 1000000 in
theorem sum91 (s : ByteArray) (c : Int) (w : World) : Calls Try.prog 91 #[.string s, .int .u8 c] w fun e w' => e = .returned (.int .i64 (Lib.indexByte s.data.toList c.toNat.toUInt8)) ∧ w' = w := by
 go_enter Try.func91, Try.ntmps91
 go_wp2
 rw [run_callFunc_extern Try.func95 (by kernel_rfl) (by kernel_rfl) (by kernel_rfl) (e := Extern.BytealgIndexByte.indexByte) (by kernel_rfl), Lib.run_indexByteString]
 simp only [Result.andThen]
 rw [Oper.upon_value]
 go_wp2
 go_ret
 exact ⟨rfl, rfl⟩
theorem so91 : P7 Try.prog 91 Fw := Oy (by kernel_rfl) sum91
end Go.Proofs.Ytmbjojnldbeicaa
