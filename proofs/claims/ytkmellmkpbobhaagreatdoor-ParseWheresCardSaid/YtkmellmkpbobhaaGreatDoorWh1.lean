import Derived.Test.YtkmellmkpbobhaaGreatDoorErrNil
import Derived.Test.YtkmellmkpbobhaaGreatDoorErrX
namespace Go.Proofs.YtkmellmkpbobhaaGreatDoor
open Go.RowKit
set_option linter.unusedSimpArgs false in
set_option maxHeartbeats 1000000 in
theorem mkNew_nil (op : ByteArray) (w : World) : Calls Tryz.prog 24 #[.string op, .nilIface] w (Layered w [(op, -1)] .nilIface) := by
 go_enter Tryz.func24, Tryz.ntmps24
 go_wp2_with fail
 go_ret
 exact ⟨_, rfl, layer_new (l := []) rfl _ _, (Below.refl _ _).alloc (Nat.le_refl _) _⟩
def pgM (p : Int) : Int := if p < -1 then -1 else p
set_option linter.unusedSimpArgs false in
set_option maxHeartbeats 1000000 in
theorem mkAt_max (op : ByteArray) (page : Int) (l : List (ByteArray × Int)) (v : Value) (a : Addr) (w : World) (hc : Chain w l v (errAt a)) : Calls Tryz.prog 25 #[.string op, .int .i64 page, v] w (Layered w ((op, pgM page) :: l) (errAt a)) := by
 have HC := hid hc
 obtain ⟨t, x, rfl⟩ := hc.iface
 clear hc
 by_cases hp : page < -1
 · have hm : pgM page = -1 := if_pos hp
   have h2 : ¬ (-1 ≤ page) := by omega
   have h3 : max page (-1) = -1 := by omega
   rw [hm]
   go_enter Tryz.func25, Tryz.ntmps25
   go_wp2_with fail
   go_ret
   exact ⟨_, rfl, layer_new HC.out _ _, (Below.refl _ _).alloc (Nat.le_refl _) _⟩
 · have hm : pgM page = page := if_neg hp
   have h2 : -1 ≤ page := by omega
   have h3 : max page (-1) = page := by omega
   rw [hm]
   go_enter Tryz.func25, Tryz.ntmps25
   go_wp2_with fail
   go_ret
   exact ⟨_, rfl, layer_new HC.out _ _, (Below.refl _ _).alloc (Nat.le_refl _) _⟩
set_option linter.unusedSimpArgs false in
set_option maxHeartbeats 1000000 in
theorem mkAtN_max (op : ByteArray) (page : Int) (x0 : ByteArray × Int) (l : List (ByteArray × Int)) (v : Value) (w : World) (hc : Chain w (x0 :: l) v .nilIface) : Calls Tryz.prog 25 #[.string op, .int .i64 page, v] w (Layered w ((op, pgM page) :: (x0 :: l)) .nilIface) := by
 have HC := hid hc
 obtain ⟨t, x, rfl⟩ := chainN_iface hc
 clear hc
 by_cases hp : page < -1
 · have hm : pgM page = -1 := if_pos hp
   have h2 : ¬ (-1 ≤ page) := by omega
   have h3 : max page (-1) = -1 := by omega
   rw [hm]
   go_enter Tryz.func25, Tryz.ntmps25
   go_wp2_with fail
   go_ret
   exact ⟨_, rfl, layer_new HC.out _ _, (Below.refl _ _).alloc (Nat.le_refl _) _⟩
 · have hm : pgM page = page := if_neg hp
   have h2 : -1 ≤ page := by omega
   have h3 : max page (-1) = page := by omega
   rw [hm]
   go_enter Tryz.func25, Tryz.ntmps25
   go_wp2_with fail
   go_ret
   exact ⟨_, rfl, layer_new HC.out _ _, (Below.refl _ _).alloc (Nat.le_refl _) _⟩
end Go.Proofs.YtkmellmkpbobhaaGreatDoor
