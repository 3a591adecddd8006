import Derived.Test.YtkhkacbejilafaaGreatLsG5
import Derived.Test.YtkhkacbejilafaaGreatProg
import Derived.KernelRfl
import Derived.Lib.Strings
import Derived.Lib.Slices
import Derived.Lib.Walk
import Derived.Lib.Bytealg
set_option maxRecDepth 100000
namespace Go.Proofs.YtkhkacbejilafaaGreat
open Go Go.LS
set_option maxHeartbeats 1000000 in
theorem sum188 (s : ByteArray) (c : Int) (w : World) : Calls Tryz.prog 188 #[.string s, .int .u8 c] w fun e w' => e = .returned (.int .i64 (Lib.indexByte s.data.toList c.toNat.toUInt8)) ∧ w' = w := by
  go_enter Tryz.func188, Tryz.ntmps188
  go_wp2
  rw [run_callFunc_extern Tryz.func195 (by kernel_rfl) (by kernel_rfl) (by kernel_rfl) (e := Extern.BytealgIndexByte.indexByte) (by kernel_rfl), Lib.run_indexByteString]
  simp only [Result.andThen]
  rw [Oper.upon_value]
  go_wp2
  go_ret
  exact ⟨rfl, rfl⟩
theorem so188 : SummOK Tryz.prog 188 sIndexByte := sIndexByte_ok (by kernel_rfl) sum188
set_option maxHeartbeats 1000000 in
theorem sum192 (a b : ByteArray) (w : World) : Calls Tryz.prog 192 #[.string a, .string b] w fun e w' => e = .returned (.int .i64 (Lib.compareBytes a.data.toList b.data.toList)) ∧ w' = w := by
  go_enter Tryz.func192, Tryz.ntmps192
  go_wp2
  rw [run_callFunc_extern Tryz.func197 (by kernel_rfl) (by kernel_rfl) (by kernel_rfl) (e := Extern.BytealgCompare.compare) (by kernel_rfl), Lib.run_compareString]
  simp only [Result.andThen]
  rw [Oper.upon_value]
  go_wp2
  go_ret
  exact ⟨rfl, rfl⟩
theorem so192 : SummOK Tryz.prog 192 sCompare := sCompare_ok (by kernel_rfl) sum192
end Go.Proofs.YtkhkacbejilafaaGreat
