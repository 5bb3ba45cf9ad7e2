import Derived.Test.YtjdeoccphemjkaaDoorEx10
/- expr.binary: a sign between two, its kind and level. No condition. -/
namespace Go.Proofs.YtjdeoccphemjkaaDoor
open Go.RowKit

theorem list_b0 : (⟨#[124, 124]⟩ : ByteArray).toList = [124, 124] := by kernel_rfl
theorem list_b1 : (⟨#[38, 38]⟩ : ByteArray).toList = [38, 38] := by kernel_rfl
theorem list_b2 : (⟨#[60]⟩ : ByteArray).toList = [60] := by kernel_rfl
theorem list_b3 : (⟨#[62]⟩ : ByteArray).toList = [62] := by kernel_rfl
theorem list_b4 : (⟨#[60, 61]⟩ : ByteArray).toList = [60, 61] := by kernel_rfl
theorem list_b5 : (⟨#[62, 61]⟩ : ByteArray).toList = [62, 61] := by kernel_rfl
theorem list_b6 : (⟨#[61, 61]⟩ : ByteArray).toList = [61, 61] := by kernel_rfl
theorem list_b7 : (⟨#[33, 61]⟩ : ByteArray).toList = [33, 61] := by kernel_rfl
theorem list_b8 : (⟨#[43]⟩ : ByteArray).toList = [43] := by kernel_rfl
theorem list_b9 : (⟨#[45]⟩ : ByteArray).toList = [45] := by kernel_rfl
theorem list_b10 : (⟨#[42]⟩ : ByteArray).toList = [42] := by kernel_rfl
theorem list_b11 : (⟨#[47]⟩ : ByteArray).toList = [47] := by kernel_rfl
theorem list_b12 : (⟨#[37]⟩ : ByteArray).toList = [37] := by kernel_rfl
theorem sgn_ne {t x : List UInt8} {L : List UInt8} (h : t ≠ x) (hl : (bs x).toList = L) : ((bs t).toList == L) = false := by
  rw [← hl]; exact str_ne (fun e => h (bs_inj e))
set_option maxHeartbeats 4000000 in
set_option maxRecDepth 100000 in
theorem binary_any (t : List UInt8) (w : World) : Calls Tryd.prog 58 #[.string (bs t)] w fun e w' => e = .returned (.tuple #[.int .i64 ((binN t).1 : Int), .int .i64 ((binN t).2 : Int)]) ∧ w' = w := by
  by_cases h0 : t = [124, 124]
  · subst h0
    show Calls Tryd.prog 58 #[.string ⟨#[124, 124]⟩] w _
    go_enter Tryd.func58, Tryd.ntmps58
    go_wp2_with fail
    go_ret2
    exact ⟨rfl, rfl⟩
  by_cases h1 : t = [38, 38]
  · subst h1
    show Calls Tryd.prog 58 #[.string ⟨#[38, 38]⟩] w _
    go_enter Tryd.func58, Tryd.ntmps58
    go_wp2_with fail
    go_ret2
    exact ⟨rfl, rfl⟩
  by_cases h2 : t = [60]
  · subst h2
    show Calls Tryd.prog 58 #[.string ⟨#[60]⟩] w _
    go_enter Tryd.func58, Tryd.ntmps58
    go_wp2_with fail
    go_ret2
    exact ⟨rfl, rfl⟩
  by_cases h3 : t = [62]
  · subst h3
    show Calls Tryd.prog 58 #[.string ⟨#[62]⟩] w _
    go_enter Tryd.func58, Tryd.ntmps58
    go_wp2_with fail
    go_ret2
    exact ⟨rfl, rfl⟩
  by_cases h4 : t = [60, 61]
  · subst h4
    show Calls Tryd.prog 58 #[.string ⟨#[60, 61]⟩] w _
    go_enter Tryd.func58, Tryd.ntmps58
    go_wp2_with fail
    go_ret2
    exact ⟨rfl, rfl⟩
  by_cases h5 : t = [62, 61]
  · subst h5
    show Calls Tryd.prog 58 #[.string ⟨#[62, 61]⟩] w _
    go_enter Tryd.func58, Tryd.ntmps58
    go_wp2_with fail
    go_ret2
    exact ⟨rfl, rfl⟩
  by_cases h6 : t = [61, 61]
  · subst h6
    show Calls Tryd.prog 58 #[.string ⟨#[61, 61]⟩] w _
    go_enter Tryd.func58, Tryd.ntmps58
    go_wp2_with fail
    go_ret2
    exact ⟨rfl, rfl⟩
  by_cases h7 : t = [33, 61]
  · subst h7
    show Calls Tryd.prog 58 #[.string ⟨#[33, 61]⟩] w _
    go_enter Tryd.func58, Tryd.ntmps58
    go_wp2_with fail
    go_ret2
    exact ⟨rfl, rfl⟩
  by_cases h8 : t = [43]
  · subst h8
    show Calls Tryd.prog 58 #[.string ⟨#[43]⟩] w _
    go_enter Tryd.func58, Tryd.ntmps58
    go_wp2_with fail
    go_ret2
    exact ⟨rfl, rfl⟩
  by_cases h9 : t = [45]
  · subst h9
    show Calls Tryd.prog 58 #[.string ⟨#[45]⟩] w _
    go_enter Tryd.func58, Tryd.ntmps58
    go_wp2_with fail
    go_ret2
    exact ⟨rfl, rfl⟩
  by_cases h10 : t = [42]
  · subst h10
    show Calls Tryd.prog 58 #[.string ⟨#[42]⟩] w _
    go_enter Tryd.func58, Tryd.ntmps58
    go_wp2_with fail
    go_ret2
    exact ⟨rfl, rfl⟩
  by_cases h11 : t = [47]
  · subst h11
    show Calls Tryd.prog 58 #[.string ⟨#[47]⟩] w _
    go_enter Tryd.func58, Tryd.ntmps58
    go_wp2_with fail
    go_ret2
    exact ⟨rfl, rfl⟩
  by_cases h12 : t = [37]
  · subst h12
    show Calls Tryd.prog 58 #[.string ⟨#[37]⟩] w _
    go_enter Tryd.func58, Tryd.ntmps58
    go_wp2_with fail
    go_ret2
    exact ⟨rfl, rfl⟩
  have n0 := sgn_ne h0 list_b0
  have n1 := sgn_ne h1 list_b1
  have n2 := sgn_ne h2 list_b2
  have n3 := sgn_ne h3 list_b3
  have n4 := sgn_ne h4 list_b4
  have n5 := sgn_ne h5 list_b5
  have n6 := sgn_ne h6 list_b6
  have n7 := sgn_ne h7 list_b7
  have n8 := sgn_ne h8 list_b8
  have n9 := sgn_ne h9 list_b9
  have n10 := sgn_ne h10 list_b10
  have n11 := sgn_ne h11 list_b11
  have n12 := sgn_ne h12 list_b12
  have hb : Hid (binN t = (0, 0)) := by
    show binN t = (0, 0)
    unfold binN
    rw [if_neg h0, if_neg h1, if_neg h2, if_neg h3, if_neg h4, if_neg h5, if_neg h6, if_neg h7, if_neg h8, if_neg h9, if_neg h10, if_neg h11, if_neg h12]
  clear h0 h1 h2 h3 h4 h5 h6 h7 h8 h9 h10 h11 h12
  go_enter Tryd.func58, Tryd.ntmps58
  go_wp2_with fail
  go_ret2
  exact ⟨by rw [hb.out]; rfl, rfl⟩
end Go.Proofs.YtjdeoccphemjkaaDoor
