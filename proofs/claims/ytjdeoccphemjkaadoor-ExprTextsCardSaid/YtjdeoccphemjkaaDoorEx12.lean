import Derived.Test.YtjdeoccphemjkaaDoorEx11
/- expr's reader: level. Conditions: the reader's box lies in memory; with less fuel level and unary give what they should. -/
namespace Go.Proofs.YtjdeoccphemjkaaDoor
open Go.RowKit

set_option maxHeartbeats 4000000 in
set_option maxRecDepth 100000 in
theorem lev_six (E : Env) (f : Nat) (hU : UnaIs E f) (n d : Nat) (s : PS) (cv : Value) (w : World) (x : PR) (h6 : n = 6) (h : RdIs E w s cv d) (hs : s.at_ < E.l.length) (hx : run E.l E.V E.Z (f + 1) (.lev n) d s = some x) :
    Calls Tryd.prog 42 #[.pointer (some ⟨E.w0.heap.size, 0, none⟩), .int .i64 (n : Int)] w (Gives E x d) := by
  have HU : Hid (Calls Tryd.prog 57 #[.pointer (some ⟨E.w0.heap.size, 0, none⟩)] w (Gives E x d)) := hU E.P d s cv w x h hs (run_six hx (by omega))
  subst h6
  clear h hs hx hU
  go_enter Tryd.func42, Tryd.ntmps42
  go_wp2_with fail
  refine HU.out.mono ?_
  rintro e w5 ⟨v5, s5, cv5, rfl, h5, hs5, hok, herr⟩
  have HG := hid (⟨v5, s5, cv5, rfl, h5, hs5, hok, herr⟩ : Gives E x d (.returned v5) w5)
  clear h5 hs5 hok herr
  go_wp2_with fail
  go_ret
  exact HG.out
end Go.Proofs.YtjdeoccphemjkaaDoor
