/- The law WideRatio: the walk. -/
import Derived.Test.YtepckgcbncdibaaBits6
import Derived.Test.YtepckgcbncdibaaTypesB
namespace Go.Proofs.Ytepckgcbncdibaa
open Go.RowKit

set_option maxRecDepth 100000 in
set_option maxHeartbeats 4000000 in
theorem wideRatio_any (x : Four) (hx : x.ok) (w : World) : Calls Try.prog 10 #[x.v] w fun e w' => e = .returned (.bool true) ∧ Kp w w' := by
  obtain ⟨a, b, c, d⟩ := x
  obtain ⟨ha, hb, hc, hd⟩ := hx
  simp only [Four.v] at *
  have r1 := fun w => ratio_any a b c w ha hb hc
  have r2 := fun w => refRatio_any a b c w ha hb hc
  have c1 := fun w => wideCmp_any a b c d w ha hb hc hd
  have c2 := fun w => refCmp_any a b c d w ha hb hc hd
  obtain ⟨r, hr⟩ : ∃ r, (ratio a b c).getD 0 = r := ⟨_, rfl⟩
  obtain ⟨ok, hok⟩ : ∃ r, (ratio a b c).isSome = r := ⟨_, rfl⟩
  obtain ⟨m, hm⟩ : ∃ r, cmpN (pos a * pos b) (pos c * pos d) = r := ⟨_, rfl⟩
  rw [hr, hok] at r1 r2
  rw [hm] at c1 c2
  have R1 := Lib.hid r1; have R2 := Lib.hid r2; have C1 := Lib.hid c1; have C2 := Lib.hid c2
  clear r1 r2 c1 c2 hr hok hm ha hb hc hd
  go_enter Try.func10, Try.ntmps10
  go_wp2
  go_quiet (fail)
  go_wp2_with fail
  refine (R1.out _).mono ?_
  rintro e w1 ⟨rfl, k1⟩
  go_wp2_with fail
  refine (R2.out _).mono ?_
  rintro e w2 ⟨rfl, k2⟩
  go_wp2_with (first
    | (go_at_call 46; go_must (refine (C1.out _).mono ?_); rintro e w' ⟨rfl, kk⟩)
    | (go_at_call 47; go_must (refine (C2.out _).mono ?_); rintro e w' ⟨rfl, kk⟩)
    | (go_at_call 48; go_must (refine (wideAwake_any _).mono ?_); rintro e w' ⟨rfl, kk⟩))
  all_goals go_ret
  all_goals exact ⟨rfl, (by (repeat (first | with_reducible assumption | with_reducible exact Kp.refl _ | with_reducible refine Kp.drew ?_ | with_reducible refine Kp.drewN ?_ _ | with_reducible refine Kp.alloc ?_ _ | ((with_reducible refine Kp.setCell ?_ ?_ _); rotate_left; (focus (first | omega | (simp; done) | (simp; omega)))) | with_reducible refine Kp.trans ?_ (by assumption))))⟩
end Go.Proofs.Ytepckgcbncdibaa
