/- A field of a struct that is a value. -/
import Derived.Test.YteipfamaclildaaKit

namespace Go.Proofs.Yteipfamaclildaa

open Go.RowKit

theorem field_ok (x : Int) (o : Bool) (w : World) : (Instr.field 53 (.agg #[.int .i64 x, .bool o]) 1).run Try.prog w = .ok (.bool o) w := by
  have hb := Try.isAgg4
  simp [Instr.field, go_sem, hb, part, asAgg]
end Go.Proofs.Yteipfamaclildaa
