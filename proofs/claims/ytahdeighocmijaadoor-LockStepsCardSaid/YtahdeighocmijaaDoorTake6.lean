/- Locks: New. -/
import Derived.Test.YtahdeighocmijaaDoorTake4
namespace Go.Proofs.YtahdeighocmijaaDoor
set_option linter.unusedSimpArgs false
set_option linter.unusedVariables false
open Go.RowKit
open Crc (Bytes)
set_option maxRecDepth 100000 in
set_option maxHeartbeats 2000000 in
theorem tnew_any (file : ByteArray) (who inc c : Nat) (lease : Int) (w : World) (h1 : who < 100) (h2 : inc < 100) (h3 : c < 100) (h4 : 0 ≤ lease) (h5 : lease ≤ 1000000) :
    Calls Tryd.prog 16 #[.string file, .int .i64 who, .int .i64 inc, .int .i64 c, .int .i64 lease] w fun e w' => e = .returned (.pointer (some ⟨w.heap.size, 0, none⟩)) ∧ TkAt w' w.heap.size ⟨file, tmpOf who inc c, who, inc, lease, 0, 0, ⟨#[]⟩, 0, lk0⟩ ∧ Below w.heap.size w w' := by
  have hm1 : max lease 0 = lease := by omega
  have hm2 : min lease 1000000 = lease := by omega
  go_enter Tryd.func16, Tryd.ntmps16
  go_wp2_with fail
  refine (temp_any who inc c h1 h2 h3 _).mono ?_
  rintro e w' ⟨rfl, rfl⟩
  go_wp2_with fail
  go_ret
  exact ⟨rfl, Blk.new w 75 _, bl_alloc (Below.refl _ _)⟩
end Go.Proofs.YtahdeighocmijaaDoor
