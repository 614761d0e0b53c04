/- More on a result that lies in a block. -/
import Derived.Test.YtaekeogaakogbaaGreatDoorBlk

namespace Go.Proofs.YtaekeogaakogbaaGreatDoor

open Go.RowKit

theorem ret_blkv {P : Program} {fn : Func} {R : Ending → World → Prop} {a : Act} {w : World} {vs : List Value} {b : Nat} {T : TypeId} (v : Value) (hb : Blk w b vs T)
    (hr : ∀ wz, Blk wz b vs T → (results fn a.tmps).run P wz = .ok v wz) (hd : a.defers = []) (hR : R (.returned v) w) : bodyPost P fn R .ret a w :=
  bodyPost_ret (hr w hb) hd hR
end Go.Proofs.YtaekeogaakogbaaGreatDoor
