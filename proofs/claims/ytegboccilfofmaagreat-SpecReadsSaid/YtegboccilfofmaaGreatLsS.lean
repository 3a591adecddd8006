import Derived.Test.YtegboccilfofmaaGreatLsG5
import Derived.Test.YtegboccilfofmaaGreatProg
import Derived.KernelRfl
import Derived.Lib.Strings
import Derived.Lib.Slices
import Derived.Lib.Walk
import Derived.Lib.Bytealg
set_option maxRecDepth 100000
namespace Go.Proofs.YtegboccilfofmaaGreat
open Go Go.LS
set_option maxHeartbeats 1000000 in
theorem sum111 (s : ByteArray) (c : Int) (w : World) : Calls Tryz.prog 111 #[.string s, .int .u8 c] w fun e w' => e = .returned (.int .i64 (Lib.indexByte s.data.toList c.toNat.toUInt8)) ∧ w' = w := by
 go_enter Tryz.func111, Tryz.ntmps111
 go_wp2
 rw [run_callFunc_extern Tryz.func115 (by kernel_rfl) (by kernel_rfl) (by kernel_rfl) (e := Extern.BytealgIndexByte.indexByte) (by kernel_rfl), Lib.run_indexByteString]
 simp only [Result.andThen]
 rw [Oper.upon_value]
 go_wp2
 go_ret
 exact ⟨rfl, rfl⟩
theorem so111 : Ow Tryz.prog 111 E3 := Nm (by kernel_rfl) sum111
end Go.Proofs.YtegboccilfofmaaGreat
