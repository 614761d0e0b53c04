/- The closure that writes a text and an end of line. -/
import Derived.Test.YtfiejiokconobaaDoorPut

namespace Go.Proofs.YtfiejiokconobaaDoor

open Go.RowKit

set_option maxRecDepth 100000 in
set_option maxHeartbeats 2000000 in
theorem putc_any (B b : Nat) (l s : List UInt8) (w : World) (h : Bld B b l w) (hlen : l.length + s.length + 1 ≤ 140737488355328) :
    Calls Tryd.prog 18 #[sv s, .pointer (some ⟨b, 0, none⟩)] w fun e w' => (∃ v, e = .returned v) ∧ Bld B b (l ++ s ++ [10]) w' ∧ Wr B b w w' := by
  have C := Lib.hid (putString B b l s w h (by omega))
  clear h
  go_enter Tryd.func18, Tryd.ntmps18
  go_wp2_with fail
  refine C.out.mono ?_
  rintro e w1 ⟨⟨v, rfl⟩, h1, b1⟩
  go_wp2_with fail
  refine (putByte B b _ 10 10 rfl _ h1 (by simp; omega)).mono ?_
  rintro e w2 ⟨⟨v, rfl⟩, h2, b2⟩
  go_wp2_with fail
  exact ⟨rfl, .tuple #[], (by simp [results, Tryd.results18, go_sem]), ⟨⟨_, rfl⟩, h2, b1.trans b2⟩⟩
end Go.Proofs.YtfiejiokconobaaDoor
