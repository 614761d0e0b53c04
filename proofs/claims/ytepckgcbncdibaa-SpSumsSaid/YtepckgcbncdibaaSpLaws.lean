/- The laws SpBack and SpSpoilt: the walks. -/
import Derived.Test.YtepckgcbncdibaaMeter
import Derived.Test.YtepckgcbncdibaaFld
namespace Go.Proofs.Ytepckgcbncdibaa
open Go.RowKit

theorem wrapU (x : Int) : ∃ k : Nat, IntKind.u64.wrap x = (k : Int) ∧ x % 18446744073709551616 = (k : Int) :=
  ⟨(x % 18446744073709551616).toNat, by rw [IntKind.wrap_u64]; omega, by omega⟩
theorem apart_facts {x y b : Int} (h0 : 0 ≤ y - x) (h1 : y - x < b) (hb : I64 b) : ∃ X Y B D : Nat, IntKind.u64.wrap x = (X : Int) ∧ IntKind.u64.wrap y = (Y : Int) ∧ IntKind.u64.wrap b = (B : Int) ∧ IntKind.u64.wrap ((Y : Int) - (X : Int)) = (D : Int) ∧ ¬ ((B : Int) ≤ (D : Int)) := by
  obtain ⟨X, e1, f1⟩ := wrapU x
  obtain ⟨Y, e2, f2⟩ := wrapU y
  obtain ⟨B, e3, f3⟩ := wrapU b
  obtain ⟨D, e4, f4⟩ := wrapU ((Y : Int) - (X : Int))
  exact ⟨X, Y, B, D, e1, e2, e3, e4, by have := hb.2; omega⟩
theorem tmod_zero {x b : Int} (h : x % b = 0) : x.tmod b = 0 := Int.tmod_eq_zero_of_dvd (Int.dvd_of_emod_eq_zero h)

theorem up_facts {a b u : Int} (h : upTo a b = some u) : 1 ≤ b ∧ 0 ≤ u - a ∧ u - a < b ∧ u.tmod b = 0 := by
  unfold upTo at h
  split at h
  · cases h
  · rename_i hb
    have h0 := Int.emod_nonneg a (by omega : b ≠ 0)
    have hl := Int.emod_lt_of_pos a (by omega : 0 < b)
    split at h
    · rename_i hz
      cases h
      exact ⟨by omega, by omega, by omega, tmod_zero hz⟩
    · rename_i hz
      split at h
      · cases h
        refine ⟨by omega, by omega, by omega, tmod_zero ?_⟩
        have e : a + (b - a % b) = b * (a / b + 1) := by
          have := Int.mul_ediv_add_emod a b
          rw [Int.mul_add, Int.mul_one]; omega
        rw [e, Int.mul_emod_right]
      · cases h
theorem down_facts {a b d : Int} (h : downTo a b = some d) : 1 ≤ b ∧ 0 ≤ a - d ∧ a - d < b ∧ d.tmod b = 0 := by
  unfold downTo at h
  split at h
  · cases h
  · rename_i hb
    have h0 := Int.emod_nonneg a (by omega : b ≠ 0)
    have hl := Int.emod_lt_of_pos a (by omega : 0 < b)
    split at h
    · cases h
      refine ⟨by omega, by omega, by omega, tmod_zero ?_⟩
      have e : a - a % b = b * (a / b) := by
        have := Int.mul_ediv_add_emod a b
        omega
      rw [e, Int.mul_emod_right]
    · cases h
theorem upTo_i64 {a b : Int} (ha : I64 a) : I64 ((upTo a b).getD 0) := by
  unfold upTo
  split
  · exact ⟨by decide, by decide⟩
  · split
    · exact ha
    · rw [(opt_fits _).1]; exact clip_bounds _

set_option maxRecDepth 100000 in
set_option maxHeartbeats 2000000 in
theorem spBack_any (a b : Int) (ha : I64 a) (hb : I64 b) (w : World) :
    Calls Try.prog 6 #[.int .i64 a, .int .i64 b] w fun e w' => e = .returned (.bool true) ∧ Kp w w' := by
  have c1 := fun w => spAdd_any a b w ha.1 ha.2 hb.1 hb.2
  have cb := clip_bounds (a + b)
  have c2 := fun w => spSub_any (clip (a + b)) b w cb.1 cb.2 hb.1 hb.2
  have c3 := fun w => spUp_any a b w ha hb
  have c4 := fun w => spDown_any a b w ha hb
  have key : fits (a + b) = true → fits (clip (a + b) - b) = true ∧ clip (clip (a + b) - b) = a := fun h => by
    rw [clip_yes h, show a + b - b = a by omega]
    have f := fits_yes ha.1 ha.2
    exact ⟨f, clip_yes f⟩
  obtain ⟨s, hs⟩ : ∃ s, clip (a + b) = s := ⟨_, rfl⟩
  obtain ⟨ok, hok⟩ : ∃ f, fits (a + b) = f := ⟨_, rfl⟩
  obtain ⟨t, ht⟩ : ∃ t, clip (s - b) = t := ⟨_, rfl⟩
  obtain ⟨bk, hbk⟩ : ∃ f, fits (s - b) = f := ⟨_, rfl⟩
  rw [hs] at c1 c2 key
  rw [hok] at c1 key
  rw [ht, hbk] at c2 key
  have uf := @up_facts a b
  have df := @down_facts a b
  obtain ⟨up, hup⟩ : ∃ u, upTo a b = u := ⟨_, rfl⟩
  obtain ⟨dn, hdn⟩ : ∃ u, downTo a b = u := ⟨_, rfl⟩
  rw [hup] at c3 uf
  rw [hdn] at c4 df
  have C1 := Lib.hid c1; have C2 := Lib.hid c2; have C3 := Lib.hid c3; have C4 := Lib.hid c4
  clear c1 c2 c3 c4 hs hok ht hbk hup hdn cb
  have KEY : Hid ((up = none ∨ ∃ u X Y B D, up = some u ∧ IntKind.u64.wrap a = ((X : Nat) : Int) ∧ IntKind.u64.wrap u = ((Y : Nat) : Int) ∧ IntKind.u64.wrap b = ((B : Nat) : Int) ∧ IntKind.u64.wrap ((Y : Int) - (X : Int)) = ((D : Nat) : Int) ∧ ¬ ((B : Int) ≤ (D : Int)) ∧ ¬ u < a ∧ u.tmod b = 0 ∧ b ≠ 0)
      ∧ (dn = none ∨ ∃ d X Y B D, dn = some d ∧ IntKind.u64.wrap d = ((X : Nat) : Int) ∧ IntKind.u64.wrap a = ((Y : Nat) : Int) ∧ IntKind.u64.wrap b = ((B : Nat) : Int) ∧ IntKind.u64.wrap ((Y : Int) - (X : Int)) = ((D : Nat) : Int) ∧ ¬ ((B : Int) ≤ (D : Int)) ∧ ¬ a < d ∧ d.tmod b = 0 ∧ b ≠ 0)) := by
    refine ⟨?_, ?_⟩
    · cases up with
      | none => exact .inl rfl
      | some u =>
        obtain ⟨g1, g2, g3, g4⟩ := uf rfl
        obtain ⟨X, Y, B, D, e1, e2, e3, e4, e5⟩ := apart_facts g2 g3 hb
        exact .inr ⟨u, X, Y, B, D, rfl, e1, e2, e3, e4, e5, by omega, g4, by omega⟩
    · cases dn with
      | none => exact .inl rfl
      | some u =>
        obtain ⟨g1, g2, g3, g4⟩ := df rfl
        obtain ⟨X, Y, B, D, e1, e2, e3, e4, e5⟩ := apart_facts g2 g3 hb
        exact .inr ⟨u, X, Y, B, D, rfl, e1, e2, e3, e4, e5, by omega, g4, by omega⟩
  clear uf df ha hb
  have KB : Hid (ok = true → bk = true ∧ t = a) := key
  clear key
  obtain ⟨ku, kd⟩ := KEY.out
  rcases ku with rfl | ⟨u, X, Y, B, D, rfl, e1, e2, e3, e4, e5, e6, e7, e8⟩
  · rcases kd with rfl | ⟨d, X2, Y2, B2, D2, rfl, d1, d2, d3, d4, d5, d6, d7, d8⟩
    · cases ok with
      | false =>
        go_enter Try.func6, Try.ntmps6
        go_wp2_with fail
        refine (C1.out _).mono ?_
        rintro e v1 ⟨rfl, rfl⟩
        go_wp2_with fail
        refine (C2.out _).mono ?_
        rintro e v2 ⟨rfl, rfl⟩
        go_wp2_with fail
        refine (C3.out _).mono ?_
        rintro e v3 ⟨rfl, rfl⟩
        go_wp2_with fail
        refine (C4.out _).mono ?_
        rintro e v4 ⟨rfl, rfl⟩
        go_wp2_with (go_at_call 29; go_must (refine (spAwake_any _).mono ?_); rintro e w' ⟨rfl, kk⟩)
        go_ret
        exact ⟨rfl, (by (repeat (first | with_reducible assumption | with_reducible exact Kp.refl _ | with_reducible refine Kp.drew ?_ | with_reducible refine Kp.drewN ?_ _ | with_reducible refine Kp.alloc ?_ _ | ((with_reducible refine Kp.setCell ?_ ?_ _); rotate_left; (focus (first | omega | (simp; done) | (simp; omega)))) | with_reducible refine Kp.trans ?_ (by assumption))))⟩
      | true =>
        obtain ⟨rfl, rfl⟩ := KB.out rfl
        go_enter Try.func6, Try.ntmps6
        go_wp2_with fail
        refine (C1.out _).mono ?_
        rintro e v1 ⟨rfl, rfl⟩
        go_wp2_with fail
        refine (C2.out _).mono ?_
        rintro e v2 ⟨rfl, rfl⟩
        go_wp2_with fail
        refine (C3.out _).mono ?_
        rintro e v3 ⟨rfl, rfl⟩
        go_wp2_with fail
        refine (C4.out _).mono ?_
        rintro e v4 ⟨rfl, rfl⟩
        go_wp2_with (go_at_call 29; go_must (refine (spAwake_any _).mono ?_); rintro e w' ⟨rfl, kk⟩)
        go_ret
        exact ⟨rfl, (by (repeat (first | with_reducible assumption | with_reducible exact Kp.refl _ | with_reducible refine Kp.drew ?_ | with_reducible refine Kp.drewN ?_ _ | with_reducible refine Kp.alloc ?_ _ | ((with_reducible refine Kp.setCell ?_ ?_ _); rotate_left; (focus (first | omega | (simp; done) | (simp; omega)))) | with_reducible refine Kp.trans ?_ (by assumption))))⟩
    · have d9 : (b == 0) = false := by rw [beq_eq_false_iff_ne]; exact d8
      cases ok with
      | false =>
        go_enter Try.func6, Try.ntmps6
        go_wp2_with fail
        refine (C1.out _).mono ?_
        rintro e v1 ⟨rfl, rfl⟩
        go_wp2_with fail
        refine (C2.out _).mono ?_
        rintro e v2 ⟨rfl, rfl⟩
        go_wp2_with fail
        refine (C3.out _).mono ?_
        rintro e v3 ⟨rfl, rfl⟩
        go_wp2_with fail
        refine (C4.out _).mono ?_
        rintro e v4 ⟨rfl, rfl⟩
        go_wp2_with (go_at_call 29; go_must (refine (spAwake_any _).mono ?_); rintro e w' ⟨rfl, kk⟩)
        go_ret
        exact ⟨rfl, (by (repeat (first | with_reducible assumption | with_reducible exact Kp.refl _ | with_reducible refine Kp.drew ?_ | with_reducible refine Kp.drewN ?_ _ | with_reducible refine Kp.alloc ?_ _ | ((with_reducible refine Kp.setCell ?_ ?_ _); rotate_left; (focus (first | omega | (simp; done) | (simp; omega)))) | with_reducible refine Kp.trans ?_ (by assumption))))⟩
      | true =>
        obtain ⟨rfl, rfl⟩ := KB.out rfl
        go_enter Try.func6, Try.ntmps6
        go_wp2_with fail
        refine (C1.out _).mono ?_
        rintro e v1 ⟨rfl, rfl⟩
        go_wp2_with fail
        refine (C2.out _).mono ?_
        rintro e v2 ⟨rfl, rfl⟩
        go_wp2_with fail
        refine (C3.out _).mono ?_
        rintro e v3 ⟨rfl, rfl⟩
        go_wp2_with fail
        refine (C4.out _).mono ?_
        rintro e v4 ⟨rfl, rfl⟩
        go_wp2_with (go_at_call 29; go_must (refine (spAwake_any _).mono ?_); rintro e w' ⟨rfl, kk⟩)
        go_ret
        exact ⟨rfl, (by (repeat (first | with_reducible assumption | with_reducible exact Kp.refl _ | with_reducible refine Kp.drew ?_ | with_reducible refine Kp.drewN ?_ _ | with_reducible refine Kp.alloc ?_ _ | ((with_reducible refine Kp.setCell ?_ ?_ _); rotate_left; (focus (first | omega | (simp; done) | (simp; omega)))) | with_reducible refine Kp.trans ?_ (by assumption))))⟩
  · have e9 : (b == 0) = false := by rw [beq_eq_false_iff_ne]; exact e8
    rcases kd with rfl | ⟨d, X2, Y2, B2, D2, rfl, d1, d2, d3, d4, d5, d6, d7, d8⟩
    · cases ok with
      | false =>
        go_enter Try.func6, Try.ntmps6
        go_wp2_with fail
        refine (C1.out _).mono ?_
        rintro e v1 ⟨rfl, rfl⟩
        go_wp2_with fail
        refine (C2.out _).mono ?_
        rintro e v2 ⟨rfl, rfl⟩
        go_wp2_with fail
        refine (C3.out _).mono ?_
        rintro e v3 ⟨rfl, rfl⟩
        go_wp2_with fail
        refine (C4.out _).mono ?_
        rintro e v4 ⟨rfl, rfl⟩
        go_wp2_with (go_at_call 29; go_must (refine (spAwake_any _).mono ?_); rintro e w' ⟨rfl, kk⟩)
        go_ret
        exact ⟨rfl, (by (repeat (first | with_reducible assumption | with_reducible exact Kp.refl _ | with_reducible refine Kp.drew ?_ | with_reducible refine Kp.drewN ?_ _ | with_reducible refine Kp.alloc ?_ _ | ((with_reducible refine Kp.setCell ?_ ?_ _); rotate_left; (focus (first | omega | (simp; done) | (simp; omega)))) | with_reducible refine Kp.trans ?_ (by assumption))))⟩
      | true =>
        obtain ⟨rfl, rfl⟩ := KB.out rfl
        go_enter Try.func6, Try.ntmps6
        go_wp2_with fail
        refine (C1.out _).mono ?_
        rintro e v1 ⟨rfl, rfl⟩
        go_wp2_with fail
        refine (C2.out _).mono ?_
        rintro e v2 ⟨rfl, rfl⟩
        go_wp2_with fail
        refine (C3.out _).mono ?_
        rintro e v3 ⟨rfl, rfl⟩
        go_wp2_with fail
        refine (C4.out _).mono ?_
        rintro e v4 ⟨rfl, rfl⟩
        go_wp2_with (go_at_call 29; go_must (refine (spAwake_any _).mono ?_); rintro e w' ⟨rfl, kk⟩)
        go_ret
        exact ⟨rfl, (by (repeat (first | with_reducible assumption | with_reducible exact Kp.refl _ | with_reducible refine Kp.drew ?_ | with_reducible refine Kp.drewN ?_ _ | with_reducible refine Kp.alloc ?_ _ | ((with_reducible refine Kp.setCell ?_ ?_ _); rotate_left; (focus (first | omega | (simp; done) | (simp; omega)))) | with_reducible refine Kp.trans ?_ (by assumption))))⟩
    · rw [e1] at d2
      rw [e3] at d3
      cases d2
      cases d3
      cases ok with
      | false =>
        go_enter Try.func6, Try.ntmps6
        go_wp2_with fail
        refine (C1.out _).mono ?_
        rintro e v1 ⟨rfl, rfl⟩
        go_wp2_with fail
        refine (C2.out _).mono ?_
        rintro e v2 ⟨rfl, rfl⟩
        go_wp2_with fail
        refine (C3.out _).mono ?_
        rintro e v3 ⟨rfl, rfl⟩
        go_wp2_with fail
        refine (C4.out _).mono ?_
        rintro e v4 ⟨rfl, rfl⟩
        go_wp2_with (go_at_call 29; go_must (refine (spAwake_any _).mono ?_); rintro e w' ⟨rfl, kk⟩)
        go_ret
        exact ⟨rfl, (by (repeat (first | with_reducible assumption | with_reducible exact Kp.refl _ | with_reducible refine Kp.drew ?_ | with_reducible refine Kp.drewN ?_ _ | with_reducible refine Kp.alloc ?_ _ | ((with_reducible refine Kp.setCell ?_ ?_ _); rotate_left; (focus (first | omega | (simp; done) | (simp; omega)))) | with_reducible refine Kp.trans ?_ (by assumption))))⟩
      | true =>
        obtain ⟨rfl, rfl⟩ := KB.out rfl
        go_enter Try.func6, Try.ntmps6
        go_wp2_with fail
        refine (C1.out _).mono ?_
        rintro e v1 ⟨rfl, rfl⟩
        go_wp2_with fail
        refine (C2.out _).mono ?_
        rintro e v2 ⟨rfl, rfl⟩
        go_wp2_with fail
        refine (C3.out _).mono ?_
        rintro e v3 ⟨rfl, rfl⟩
        go_wp2_with fail
        refine (C4.out _).mono ?_
        rintro e v4 ⟨rfl, rfl⟩
        go_wp2_with (go_at_call 29; go_must (refine (spAwake_any _).mono ?_); rintro e w' ⟨rfl, kk⟩)
        go_ret
        exact ⟨rfl, (by (repeat (first | with_reducible assumption | with_reducible exact Kp.refl _ | with_reducible refine Kp.drew ?_ | with_reducible refine Kp.drewN ?_ _ | with_reducible refine Kp.alloc ?_ _ | ((with_reducible refine Kp.setCell ?_ ?_ _); rotate_left; (focus (first | omega | (simp; done) | (simp; omega)))) | with_reducible refine Kp.trans ?_ (by assumption))))⟩

set_option maxRecDepth 100000 in
set_option maxHeartbeats 2000000 in
theorem spSpoilt_any (a b c : Int) (ha : I64 a) (hb : I64 b) (hc : I64 c) (w : World) :
    Calls Try.prog 7 #[.int .i64 a, .int .i64 b, .int .i64 c] w fun e w' => e = .returned (.bool true) ∧ Kp w w' := by
  have fa : fits (0 + a) = true := by rw [Int.zero_add]; exact fits_yes ha.1 ha.2
  have ca : clip (0 + a) = a := by rw [Int.zero_add]; exact clip_yes (fits_yes ha.1 ha.2)
  have fo := field_ok
  have rs := fun w => refSub_any a b w ha.1 ha.2 hb.1 hb.2
  have cb := clip_bounds (a - b)
  have HA := Lib.hid ha; have HB := Lib.hid hb; have HC := Lib.hid hc; have FA := Lib.hid fa; have CA := Lib.hid ca
  clear ha hb hc fa ca
  obtain ⟨v, hv⟩ : ∃ v, clip (a - b) = v := ⟨_, rfl⟩
  obtain ⟨g, hg⟩ : ∃ g, fits (a - b) = g := ⟨_, rfl⟩
  have HV := Lib.hid hv; have HG := Lib.hid hg
  rw [hv, hg] at rs
  have RS := Lib.hid rs
  have vz : g = false → v = 0 := fun h => by rw [← hv, clip_no (by rw [hg, h])]
  clear hv hg rs cb
  cases g with
  | false =>
    obtain rfl := vz rfl
    go_enter Try.func7, Try.ntmps7
    go_wp2_with fail
    refine (value_nil _).mono ?_
    rintro e v1 ⟨rfl, h1⟩
    rw [h1]
    go_wp2_with fail
    refine (spNew_any _).mono ?_
    rintro e v3 ⟨rfl, hv3⟩
    have x0 : Blk v3 w.heap.size (met 0 false) 100 := by subst hv3; exact Blk.new _ _ _
    have k3 : Kp w v3 := by subst hv3; exact (by (repeat (first | with_reducible assumption | with_reducible exact Kp.refl _ | with_reducible refine Kp.drew ?_ | with_reducible refine Kp.drewN ?_ _ | with_reducible refine Kp.alloc ?_ _ | ((with_reducible refine Kp.setCell ?_ ?_ _); rotate_left; (focus (first | omega | (simp; done) | (simp; omega)))) | with_reducible refine Kp.trans ?_ (by assumption))))
    clear hv3 h1
    go_wp2_with fail
    refine (byAdd_any _ _ _ _ x0 ⟨by decide, by decide⟩ HA.out).mono ?_
    rintro e v4 ⟨rfl, hv4⟩
    rw [FA.out, CA.out] at *
    have x1 : Blk v4 w.heap.size (met a false) 100 := by subst hv4; exact (x0.set 0 _).set 1 _
    have k4 : Kp w v4 := by subst hv4; exact (by (repeat (first | with_reducible assumption | with_reducible exact Kp.refl _ | with_reducible refine Kp.drew ?_ | with_reducible refine Kp.drewN ?_ _ | with_reducible refine Kp.alloc ?_ _ | ((with_reducible refine Kp.setCell ?_ ?_ _); rotate_left; (focus (first | omega | (simp; done) | (simp; omega)))) | with_reducible refine Kp.trans ?_ (by assumption))))
    clear hv4 x0 k3
    go_wp2_with fail
    refine (bySub_any _ _ _ _ x1 HA.out HB.out).mono ?_
    rintro e v5 ⟨rfl, hv5⟩
    rw [HG.out, HV.out] at *
    have x2 : Blk v5 w.heap.size (met 0 true) 100 := by subst hv5; exact (x1.set 0 _).set 1 _
    have k5 : Kp w v5 := by subst hv5; exact (by (repeat (first | with_reducible assumption | with_reducible exact Kp.refl _ | with_reducible refine Kp.drew ?_ | with_reducible refine Kp.drewN ?_ _ | with_reducible refine Kp.alloc ?_ _ | ((with_reducible refine Kp.setCell ?_ ?_ _); rotate_left; (focus (first | omega | (simp; done) | (simp; omega)))) | with_reducible refine Kp.trans ?_ (by assumption))))
    clear hv5 x1 k4
    go_wp2_with fail
    refine (value_spoilt _ _ (x2.cell 1 rfl)).mono ?_
    rintro e v6 ⟨rfl, h6⟩
    rw [h6]
    clear h6
    go_wp2_with fail
    refine (byAdd_spoilt _ _ _ (x2.cell 1 rfl)).mono ?_
    rintro e v7 ⟨rfl, h7⟩
    rw [h7]
    clear h7
    go_wp2_with fail
    refine (bySub_spoilt _ _ _ (x2.cell 1 rfl)).mono ?_
    rintro e v8 ⟨rfl, h8⟩
    rw [h8]
    clear h8
    go_wp2_with fail
    refine (RS.out _).mono ?_
    rintro e v9 ⟨rfl, h9⟩
    have k9 : Kp w v9 := by subst h9; exact (by (repeat (first | with_reducible assumption | with_reducible exact Kp.refl _ | with_reducible refine Kp.drew ?_ | with_reducible refine Kp.drewN ?_ _ | with_reducible refine Kp.alloc ?_ _ | ((with_reducible refine Kp.setCell ?_ ?_ _); rotate_left; (focus (first | omega | (simp; done) | (simp; omega)))) | with_reducible refine Kp.trans ?_ (by assumption))))
    clear h9
    go_wp2_with fail
    refine (byAdd_nil _ _).mono ?_
    rintro e v10 ⟨rfl, h10⟩
    rw [h10]
    clear h10
    go_wp2_with fail
    refine (spAwake_any _).mono ?_
    rintro e v11 ⟨rfl, k11⟩
    go_wp2
    go_ret
    exact ⟨rfl, (by (repeat (first | with_reducible assumption | with_reducible exact Kp.refl _ | with_reducible refine Kp.drew ?_ | with_reducible refine Kp.drewN ?_ _ | with_reducible refine Kp.alloc ?_ _ | ((with_reducible refine Kp.setCell ?_ ?_ _); rotate_left; (focus (first | omega | (simp; done) | (simp; omega)))) | with_reducible refine Kp.trans ?_ (by assumption))))⟩
  | true =>
    go_enter Try.func7, Try.ntmps7
    go_wp2_with fail
    refine (value_nil _).mono ?_
    rintro e v1 ⟨rfl, h1⟩
    rw [h1]
    go_wp2_with fail
    refine (spNew_any _).mono ?_
    rintro e v3 ⟨rfl, hv3⟩
    have x0 : Blk v3 w.heap.size (met 0 false) 100 := by subst hv3; exact Blk.new _ _ _
    have k3 : Kp w v3 := by subst hv3; exact (by (repeat (first | with_reducible assumption | with_reducible exact Kp.refl _ | with_reducible refine Kp.drew ?_ | with_reducible refine Kp.drewN ?_ _ | with_reducible refine Kp.alloc ?_ _ | ((with_reducible refine Kp.setCell ?_ ?_ _); rotate_left; (focus (first | omega | (simp; done) | (simp; omega)))) | with_reducible refine Kp.trans ?_ (by assumption))))
    clear hv3 h1
    go_wp2_with fail
    refine (byAdd_any _ _ _ _ x0 ⟨by decide, by decide⟩ HA.out).mono ?_
    rintro e v4 ⟨rfl, hv4⟩
    rw [FA.out, CA.out] at *
    have x1 : Blk v4 w.heap.size (met a false) 100 := by subst hv4; exact (x0.set 0 _).set 1 _
    have k4 : Kp w v4 := by subst hv4; exact (by (repeat (first | with_reducible assumption | with_reducible exact Kp.refl _ | with_reducible refine Kp.drew ?_ | with_reducible refine Kp.drewN ?_ _ | with_reducible refine Kp.alloc ?_ _ | ((with_reducible refine Kp.setCell ?_ ?_ _); rotate_left; (focus (first | omega | (simp; done) | (simp; omega)))) | with_reducible refine Kp.trans ?_ (by assumption))))
    clear hv4 x0 k3
    go_wp2_with fail
    refine (bySub_any _ _ _ _ x1 HA.out HB.out).mono ?_
    rintro e v5 ⟨rfl, hv5⟩
    rw [HG.out, HV.out] at *
    have x2 : Blk v5 w.heap.size (met v false) 100 := by subst hv5; exact (x1.set 0 _).set 1 _
    have k5 : Kp w v5 := by subst hv5; exact (by (repeat (first | with_reducible assumption | with_reducible exact Kp.refl _ | with_reducible refine Kp.drew ?_ | with_reducible refine Kp.drewN ?_ _ | with_reducible refine Kp.alloc ?_ _ | ((with_reducible refine Kp.setCell ?_ ?_ _); rotate_left; (focus (first | omega | (simp; done) | (simp; omega)))) | with_reducible refine Kp.trans ?_ (by assumption))))
    clear hv5 x1 k4
    go_wp2_with fail
    refine (value_any _ v _ (x2.cell 0 rfl) (x2.cell 1 rfl)).mono ?_
    rintro e v6 ⟨rfl, h6⟩
    rw [h6]
    clear h6
    go_wp2_with fail
    refine (RS.out _).mono ?_
    rintro e v7 ⟨rfl, h7⟩
    have k7 : Kp w v7 := by subst h7; exact (by (repeat (first | with_reducible assumption | with_reducible exact Kp.refl _ | with_reducible refine Kp.drew ?_ | with_reducible refine Kp.drewN ?_ _ | with_reducible refine Kp.alloc ?_ _ | ((with_reducible refine Kp.setCell ?_ ?_ _); rotate_left; (focus (first | omega | (simp; done) | (simp; omega)))) | with_reducible refine Kp.trans ?_ (by assumption))))
    clear h7
    go_wp2_with fail
    refine (spIs_any _ _ _ _ _).mono ?_
    rintro e v8 ⟨rfl, k8⟩
    go_wp2_with fail
    refine (byAdd_nil _ _).mono ?_
    rintro e v9 ⟨rfl, h9⟩
    rw [h9]
    clear h9
    go_wp2_with fail
    refine (bySub_nil _ _).mono ?_
    rintro e v10 ⟨rfl, h10⟩
    rw [h10]
    clear h10
    go_wp2_with fail
    refine (spAwake_any _).mono ?_
    rintro e v11 ⟨rfl, k11⟩
    go_wp2
    go_ret
    exact ⟨rfl, (by (repeat (first | with_reducible assumption | with_reducible exact Kp.refl _ | with_reducible refine Kp.drew ?_ | with_reducible refine Kp.drewN ?_ _ | with_reducible refine Kp.alloc ?_ _ | ((with_reducible refine Kp.setCell ?_ ?_ _); rotate_left; (focus (first | omega | (simp; done) | (simp; omega)))) | with_reducible refine Kp.trans ?_ (by assumption))))⟩
end Go.Proofs.Ytepckgcbncdibaa
