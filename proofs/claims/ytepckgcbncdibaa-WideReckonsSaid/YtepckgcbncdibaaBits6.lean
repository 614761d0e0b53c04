/- The ratio and the comparison of the document: the walks. -/
import Derived.Test.YtepckgcbncdibaaBits5
import Derived.Test.YtepckgcbncdibaaWideLaws
namespace Go.Proofs.Ytepckgcbncdibaa
open Go.RowKit

theorem field77 (f : Nat → Bool) (r : Int) (ok : Bool) (w : World) : (Instr.field 77 (.agg (parC f r ok).toArray) 0).run Try.prog w = .ok (.agg (bitsF f).toArray) w := by
  have h2 := Try.isAgg67
  simp [Instr.field, go_sem, h2, part, asAgg]
  exact take_num f _
theorem ratio_nat (a b c : Nat) (hc : 0 < c) : ratio a b c = if a * b / c ≤ 9223372036854775807 then some ((a * b / c : Nat) : Int) else none := by
  unfold ratio
  rw [if_neg (by omega)]
  have e : (a : Int) * b / c = ((a * b / c : Nat) : Int) := by push_cast; rfl
  rw [e]
  split
  · rw [if_pos (by omega)]
  · rw [if_neg (by omega)]

set_option maxRecDepth 100000 in
set_option maxHeartbeats 4000000 in
theorem refRatio_nat (a b c : Nat) (ha : a ≤ 9223372036854775807) (hb : b ≤ 9223372036854775807) (hc0 : 0 < c) (hc : c ≤ 9223372036854775807) (w : World) :
    Calls Try.prog 45 #[.int .i64 a, .int .i64 b, .int .i64 c] w fun e w' => e = .returned (.agg #[.int .i64 ((ratio a b c).getD 0), .bool (ratio a b c).isSome]) ∧ Kp w w' := by
  have hM := refMul_any a b (by omega) (by omega)
  have hab : a * b ≤ 9223372036854775807 * 9223372036854775807 := Nat.mul_le_mul ha hb
  have hD := refDiv_any (a * b) c (by omega) hc0 (by omega)
  have hq : a * b / c < 2 ^ 128 := Nat.lt_of_le_of_lt (Nat.div_le_self _ _) (by omega)
  have hW := refWords_any (a * b / c) hq
  have hr := ratio_nat a b c hc0
  obtain ⟨q, eq⟩ : ∃ q, a * b / c = q := ⟨_, rfl⟩
  rw [eq] at hD hW hr hq
  obtain ⟨rv, erv⟩ : ∃ rv, ratio a b c = rv := ⟨_, rfl⟩
  rw [erv] at hr ⊢
  obtain ⟨hi, ehi⟩ : ∃ hi, q / 2 ^ 64 = hi := ⟨_, rfl⟩
  obtain ⟨lo, elo⟩ : ∃ lo, q % 2 ^ 64 = lo := ⟨_, rfl⟩
  rw [ehi, elo] at hW
  have hlo : lo < 18446744073709551616 := by rw [← elo]; exact Nat.mod_lt _ (by decide)
  have HR : Hid ((rv.getD 0, rv.isSome) = if hi = 0 ∧ lo ≤ 9223372036854775807 then ((lo : Int), true) else (0, false)) := by
    refine Lib.hid ?_
    rw [hr]
    have e := Nat.div_add_mod q (2 ^ 64)
    rw [ehi, elo] at e
    by_cases h : q ≤ 9223372036854775807
    · have h1 : hi = 0 := by omega
      have h2 : lo = q := by rw [h1] at e; omega
      rw [if_pos h, if_pos ⟨h1, by omega⟩, h2]; rfl
    · rw [if_neg h, if_neg (by intro ⟨h1, h2⟩; rw [h1] at e; omega)]; rfl
  have n0 : decide ((a : Int) < 0) = false := decide_eq_false (by omega)
  have n1 : decide ((b : Int) < 0) = false := decide_eq_false (by omega)
  have n2 : decide ((c : Int) < 1) = false := decide_eq_false (by omega)
  clear hab hq hr eq erv ehi elo hc0
  go_enter Try.func45, Try.ntmps45
  go_wp2_with fail
  refine (hM _).mono ?_
  rintro e w1 ⟨rfl, k1⟩
  have xr : Blk w1 w.heap.size [.int .i64 0, .bool false] 59 := Blk.kp (by (repeat (first | with_reducible assumption | ((with_reducible refine Blk.newL ?_ ?_); (focus (first | (simp; done) | omega)); rfl) | with_reducible refine Blk.drew ?_ | with_reducible refine Blk.drewN ?_ _ | with_reducible refine Blk.alloc ?_ _ | ((with_reducible refine Blk.other ?_ ?_ _); rotate_left; (focus (first | with_reducible assumption | omega | (simp; done) | (simp; omega))))))) k1; have xr_0 := xr.cell 0 rfl; have xr_1 := xr.cell 1 rfl; have xr_ne := xr.lt; have xr_n1 := Nat.lt_add_one_of_lt xr_ne; have xr_n2 := Nat.lt_add_one_of_lt xr_n1; have xr_f0 := xr.free 0; have xr_f1 := xr.free 1
  have xk : Kp w w1 := ((by (repeat (first | with_reducible assumption | with_reducible exact Kp.refl _ | with_reducible refine Kp.drew ?_ | with_reducible refine Kp.drewN ?_ _ | with_reducible refine Kp.alloc ?_ _ | ((with_reducible refine Kp.setCell ?_ ?_ _); rotate_left; (focus (first | omega | (simp; done) | (simp; omega)))) | with_reducible refine Kp.trans ?_ (by assumption)))) : Kp w _).trans k1
  clear hM k1
  go_wp2_with fail
  refine (hD _).mono ?_
  rintro e w2 ⟨rfl, k2⟩
  have t_xr : Blk w2 w.heap.size [.int .i64 0, .bool false] 59 := Blk.kp (by (repeat (first | with_reducible assumption | ((with_reducible refine Blk.newL ?_ ?_); (focus (first | (simp; done) | omega)); rfl) | with_reducible refine Blk.drew ?_ | with_reducible refine Blk.drewN ?_ _ | with_reducible refine Blk.alloc ?_ _ | ((with_reducible refine Blk.other ?_ ?_ _); rotate_left; (focus (first | with_reducible assumption | omega | (simp; done) | (simp; omega))))))) k2; clear xr_0 xr_1 xr_ne xr_n1 xr_n2 xr_f0 xr_f1 xr; have xr := t_xr; clear t_xr; have xr_0 := xr.cell 0 rfl; have xr_1 := xr.cell 1 rfl; have xr_ne := xr.lt; have xr_n1 := Nat.lt_add_one_of_lt xr_ne; have xr_n2 := Nat.lt_add_one_of_lt xr_n1; have xr_f0 := xr.free 0; have xr_f1 := xr.free 1
  have yk := xk.trans k2
  clear hD k2 xk
  go_wp2_with (first | (refine fdRow ?gd 77 (.tmp 26) 0 ?ho ?hx (field77 q.testBit ((a * b % c : Nat) : Int) true _) ?_; (case gd => rfl); (case ho => rfl); (case hx => rfl)) | fail)
  refine (hW _).mono ?_
  rintro e w3 ⟨rfl, k3⟩
  have t_xr : Blk w3 w.heap.size [.int .i64 0, .bool false] 59 := Blk.kp (by (repeat (first | with_reducible assumption | ((with_reducible refine Blk.newL ?_ ?_); (focus (first | (simp; done) | omega)); rfl) | with_reducible refine Blk.drew ?_ | with_reducible refine Blk.drewN ?_ _ | with_reducible refine Blk.alloc ?_ _ | ((with_reducible refine Blk.other ?_ ?_ _); rotate_left; (focus (first | with_reducible assumption | omega | (simp; done) | (simp; omega))))))) k3; clear xr_0 xr_1 xr_ne xr_n1 xr_n2 xr_f0 xr_f1 xr; have xr := t_xr; clear t_xr; have xr_0 := xr.cell 0 rfl; have xr_1 := xr.cell 1 rfl; have xr_ne := xr.lt; have xr_n1 := Nat.lt_add_one_of_lt xr_ne; have xr_n2 := Nat.lt_add_one_of_lt xr_n1; have xr_f0 := xr.free 0; have xr_f1 := xr.free 1
  have xk := yk.trans k3
  clear hW k3 yk
  by_cases h1 : hi = 0
  · subst h1
    by_cases h2 : lo ≤ 9223372036854775807
    · have hv := HR.out
      rw [if_pos ⟨rfl, h2⟩] at hv
      have HE : Hid (Ending.returned (.agg #[.int .i64 lo, .bool true]) = .returned (.agg #[.int .i64 (rv.getD 0), .bool rv.isSome])) := by
        refine Lib.hid ?_
        have e1 : rv.getD 0 = lo := congrArg Prod.fst hv
        have e2 : rv.isSome = true := congrArg Prod.snd hv
        rw [e1, e2]
      clear hv HR
      go_wp2
      refine ret_blk (vs := [.int .i64 lo, .bool true]) (((xr.set 0 _).set 1 _).alloc _) ?hr ?hd ⟨HE.out, (by (repeat (first | with_reducible assumption | with_reducible exact Kp.refl _ | with_reducible refine Kp.drew ?_ | with_reducible refine Kp.drewN ?_ _ | with_reducible refine Kp.alloc ?_ _ | ((with_reducible refine Kp.setCell ?_ ?_ _); rotate_left; (focus (first | omega | (simp; done) | (simp; omega)))) | with_reducible refine Kp.trans ?_ (by assumption))))⟩; (case hd => rfl); (case hr => intro wz bz; have z0 := bz.cell 0 rfl; have z1 := bz.cell 1 rfl; simp [results, Try.results45, go_sem, z0, z1])
    · have hv := HR.out
      rw [if_neg (fun h => h2 h.2)] at hv
      have HE : Hid (Ending.returned (.agg #[.int .i64 0, .bool false]) = .returned (.agg #[.int .i64 (rv.getD 0), .bool rv.isSome])) := by
        refine Lib.hid ?_
        have e1 : rv.getD 0 = 0 := congrArg Prod.fst hv
        have e2 : rv.isSome = false := congrArg Prod.snd hv
        rw [e1, e2]
      clear hv HR
      go_wp2
      refine ret_blk (vs := [.int .i64 0, .bool false]) (((xr.set 0 _).set 1 _).alloc _) ?hr ?hd ⟨HE.out, (by (repeat (first | with_reducible assumption | with_reducible exact Kp.refl _ | with_reducible refine Kp.drew ?_ | with_reducible refine Kp.drewN ?_ _ | with_reducible refine Kp.alloc ?_ _ | ((with_reducible refine Kp.setCell ?_ ?_ _); rotate_left; (focus (first | omega | (simp; done) | (simp; omega)))) | with_reducible refine Kp.trans ?_ (by assumption))))⟩; (case hd => rfl); (case hr => intro wz bz; have z0 := bz.cell 0 rfl; have z1 := bz.cell 1 rfl; simp [results, Try.results45, go_sem, z0, z1])
  · have hv := HR.out
    rw [if_neg (fun h => h1 h.1)] at hv
    have HE : Hid (Ending.returned (.agg #[.int .i64 0, .bool false]) = .returned (.agg #[.int .i64 (rv.getD 0), .bool rv.isSome])) := by
      refine Lib.hid ?_
      have e1 : rv.getD 0 = 0 := congrArg Prod.fst hv
      have e2 : rv.isSome = false := congrArg Prod.snd hv
      rw [e1, e2]
    have h3 : decide ((hi : Int) > 0) = true := decide_eq_true (by omega)
    have h4 : decide (0 < (hi : Int)) = true := decide_eq_true (by omega)
    clear hv HR
    go_wp2
    refine ret_blk (vs := [.int .i64 0, .bool false]) (((xr.set 0 _).set 1 _).alloc _) ?hr ?hd ⟨HE.out, (by (repeat (first | with_reducible assumption | with_reducible exact Kp.refl _ | with_reducible refine Kp.drew ?_ | with_reducible refine Kp.drewN ?_ _ | with_reducible refine Kp.alloc ?_ _ | ((with_reducible refine Kp.setCell ?_ ?_ _); rotate_left; (focus (first | omega | (simp; done) | (simp; omega)))) | with_reducible refine Kp.trans ?_ (by assumption))))⟩; (case hd => rfl); (case hr => intro wz bz; have z0 := bz.cell 0 rfl; have z1 := bz.cell 1 rfl; simp [results, Try.results45, go_sem, z0, z1])

set_option maxHeartbeats 1000000 in
theorem refRatio_any (a b c : Int) (w : World) (ha : I64 a) (hb : I64 b) (hc : I64 c) :
    Calls Try.prog 45 #[.int .i64 a, .int .i64 b, .int .i64 c] w fun e w' => e = .returned (.agg #[.int .i64 ((ratio a b c).getD 0), .bool (ratio a b c).isSome]) ∧ Kp w w' := by
  by_cases h : a < 0 ∨ b < 0 ∨ c < 1
  · have hn : ratio a b c = none := by unfold ratio; rw [if_pos h]
    rw [hn]
    clear hn
    go_enter Try.func45, Try.ntmps45
    go_wp2
    all_goals
      refine ret_blk (vs := [.int .i64 0, .bool false]) (Blk.new _ _ _) ?hr ?hd ⟨rfl, (by (repeat (first | with_reducible assumption | with_reducible exact Kp.refl _ | with_reducible refine Kp.drew ?_ | with_reducible refine Kp.drewN ?_ _ | with_reducible refine Kp.alloc ?_ _ | ((with_reducible refine Kp.setCell ?_ ?_ _); rotate_left; (focus (first | omega | (simp; done) | (simp; omega)))) | with_reducible refine Kp.trans ?_ (by assumption))))⟩
      case hr =>
        intro wz bz
        have z0 := bz.cell 0 rfl
        have z1 := bz.cell 1 rfl
        simp [results, Try.results45, go_sem, z0, z1]
      case hd => rfl
  · obtain ⟨x, rfl⟩ := Int.eq_ofNat_of_zero_le (show 0 ≤ a by omega)
    obtain ⟨y, rfl⟩ := Int.eq_ofNat_of_zero_le (show 0 ≤ b by omega)
    obtain ⟨z, rfl⟩ := Int.eq_ofNat_of_zero_le (show 0 ≤ c by omega)
    exact refRatio_nat x y z (by have := ha.2; omega) (by have := hb.2; omega) (by omega) (by have := hc.2; omega) w

theorem wrap_pos {x : Int} (h : I64 x) : IntKind.u64.wrap (max 0 x) = ((pos x : Nat) : Int) := by
  have h1 := h.1
  have h2 := h.2
  unfold pos
  rw [IntKind.wrap_u64]
  omega
set_option maxRecDepth 100000 in
set_option maxHeartbeats 4000000 in
theorem refCmp_any (a b c d : Int) (w : World) (ha : I64 a) (hb : I64 b) (hc : I64 c) (hd : I64 d) :
    Calls Try.prog 47 #[.int .i64 a, .int .i64 b, .int .i64 c, .int .i64 d] w fun e w' => e = .returned (.int .i64 (cmpN (pos a * pos b) (pos c * pos d))) ∧ Kp w w' := by
  have pa := pos_lt ha; have pb := pos_lt hb; have pc := pos_lt hc; have pd := pos_lt hd
  have m1 := refMul_any (pos a) (pos b) (by omega) (by omega)
  have m2 := refMul_any (pos c) (pos d) (by omega) (by omega)
  have s1 := mul_small (show pos a < 18446744073709551616 by omega) (show pos b < 18446744073709551616 by omega) 64
  have s2 := mul_small (show pos c < 18446744073709551616 by omega) (show pos d < 18446744073709551616 by omega) 64
  rw [Nat.mod_eq_of_lt (by omega)] at s1 s2
  obtain ⟨A, hA⟩ : ∃ k : Nat, pos a * pos b = k := ⟨_, rfl⟩
  obtain ⟨B, hB⟩ : ∃ k : Nat, pos c * pos d = k := ⟨_, rfl⟩
  rw [hA] at m1 s1 ⊢
  rw [hB] at m2 s2 ⊢
  have l1 := refLess_any A B s1 s2
  have l2 := refLess_any B A s2 s1
  have ea : IntKind.u64.wrap (max 0 a) = ((pos a : Nat) : Int) := wrap_pos ha
  have eb : IntKind.u64.wrap (max 0 b) = ((pos b : Nat) : Int) := wrap_pos hb
  have ec : IntKind.u64.wrap (max 0 c) = ((pos c : Nat) : Int) := wrap_pos hc
  have ed : IntKind.u64.wrap (max 0 d) = ((pos d : Nat) : Int) := wrap_pos hd
  have M1 := Lib.hid m1; have M2 := Lib.hid m2; have L1 := Lib.hid l1; have L2 := Lib.hid l2
  have HA := Lib.hid ha; have HB := Lib.hid hb; have HC := Lib.hid hc; have HD := Lib.hid hd
  clear m1 m2 l1 l2 s1 s2 hA hB ha hb hc hd
  go_enter Try.func47, Try.ntmps47
  go_wp2_with fail
  refine (M1.out _).mono ?_
  rintro e w1 ⟨rfl, k1⟩
  go_wp2_with fail
  refine (M2.out _).mono ?_
  rintro e w2 ⟨rfl, k2⟩
  have xk : Kp w w2 := k1.trans k2
  clear M1 M2 k1 k2 ea eb ec ed
  unfold nmC
  go_wp2_with (first | (refine st67w (b := ?b) (t := ?t) (f := (fun _ => false)) (g := A.testBit) ?gd (.tmp 9) (.tmp 17) ?ho ?hb ?hx ?hy ?_; (case gd => rfl); (case ho => rfl); (case hx => rfl); (case hy => rfl); (case hb => (repeat (first | with_reducible exact Blk.zero67 _ _ | with_reducible exact Blk.numNew _ _ _ | with_reducible refine Blk.num (by assumption) | ((with_reducible refine Blk.numAway ?_ _ _ _ ?_); (focus (first | with_reducible assumption | omega | (simp; done) | (simp; omega)))) | with_reducible assumption | ((with_reducible refine Blk.newL ?_ ?_); (focus (first | (simp; done) | omega)); rfl) | with_reducible refine Blk.drew ?_ | with_reducible refine Blk.drewN ?_ _ | with_reducible refine Blk.alloc ?_ _ | ((with_reducible refine Blk.other ?_ ?_ _); rotate_left; (focus (first | with_reducible assumption | omega | (simp; done) | (simp; omega)))))))) | fail)
  intro w3 za oth kp sz3
  have zb : Blk w3 (w2.heap.size + 1) (bitsF fun _ => false) 67 := oth (by omega) (by (repeat (first | with_reducible exact Blk.zero67 _ _ | with_reducible exact Blk.numNew _ _ _ | with_reducible refine Blk.num (by assumption) | ((with_reducible refine Blk.numAway ?_ _ _ _ ?_); (focus (first | with_reducible assumption | omega | (simp; done) | (simp; omega)))) | with_reducible assumption | ((with_reducible refine Blk.newL ?_ ?_); (focus (first | (simp; done) | omega)); rfl) | with_reducible refine Blk.drew ?_ | with_reducible refine Blk.drewN ?_ _ | with_reducible refine Blk.alloc ?_ _ | ((with_reducible refine Blk.other ?_ ?_ _); rotate_left; (focus (first | with_reducible assumption | omega | (simp; done) | (simp; omega)))))))
  have zk : Kp w w3 := kp xk.size (by (repeat (first | with_reducible assumption | with_reducible exact Kp.refl _ | with_reducible refine Kp.drew ?_ | with_reducible refine Kp.drewN ?_ _ | with_reducible refine Kp.alloc ?_ _ | ((with_reducible refine Kp.setCell ?_ ?_ _); rotate_left; (focus (first | omega | (simp; done) | (simp; omega)))) | ((with_reducible refine Kp.setCells ?_ _ _ _ ?_); (focus (first | omega | (simp; done) | (simp; omega)))) | with_reducible refine Kp.trans ?_ (by assumption))))
  clear oth kp
  go_wp2_with (first | (refine st67w (g := B.testBit) ?gd (.tmp 10) (.tmp 24) ?ho zb ?hx ?hy ?_; (case gd => rfl); (case ho => rfl); (case hx => rfl); (case hy => rfl)) | fail)
  intro w4 zb oth kp sz4
  have za := oth (by omega) za
  have zk := kp (by have := xk.size; omega) zk
  clear oth kp
  go_wp2_with (first | (refine ld67 ?gd (.tmp 9) ?ho za ?hx ?_; (case gd => rfl); (case ho => rfl); (case hx => rfl)) | (refine ld67 ?gd (.tmp 10) ?ho zb ?hx ?_; (case gd => rfl); (case ho => rfl); (case hx => rfl)) | fail)
  refine (L1.out _).mono ?_
  rintro e w5 ⟨rfl, k5⟩
  by_cases h1 : A < B
  · have hv : decide (A < B) = true := decide_eq_true h1
    have HE : cmpN A B = -1 := by unfold cmpN; rw [if_pos h1]
    rw [hv]
    clear hv
    go_wp2
    go_ret
    exact ⟨by rw [HE]; rfl, (by (repeat (first | with_reducible assumption | with_reducible exact Kp.refl _ | with_reducible refine Kp.drew ?_ | with_reducible refine Kp.drewN ?_ _ | with_reducible refine Kp.alloc ?_ _ | ((with_reducible refine Kp.setCell ?_ ?_ _); rotate_left; (focus (first | omega | (simp; done) | (simp; omega)))) | with_reducible refine Kp.trans ?_ (by assumption))))⟩
  · have hv : decide (A < B) = false := decide_eq_false h1
    rw [hv]
    have ya := za.kp k5
    have yb := zb.kp k5
    have yk := zk.trans k5
    clear hv k5 zk
    go_wp2_with (first | (refine ld67 ?gd (.tmp 9) ?ho ya ?hx ?_; (case gd => rfl); (case ho => rfl); (case hx => rfl)) | (refine ld67 ?gd (.tmp 10) ?ho yb ?hx ?_; (case gd => rfl); (case ho => rfl); (case hx => rfl)) | fail)
    refine (L2.out _).mono ?_
    rintro e w6 ⟨rfl, k6⟩
    by_cases h2 : B < A
    · have hv : decide (B < A) = true := decide_eq_true h2
      have HE : cmpN A B = 1 := by unfold cmpN; rw [if_neg h1, if_pos h2]
      rw [hv]
      clear hv
      go_wp2
      go_ret
      exact ⟨by rw [HE]; rfl, (by (repeat (first | with_reducible assumption | with_reducible exact Kp.refl _ | with_reducible refine Kp.drew ?_ | with_reducible refine Kp.drewN ?_ _ | with_reducible refine Kp.alloc ?_ _ | ((with_reducible refine Kp.setCell ?_ ?_ _); rotate_left; (focus (first | omega | (simp; done) | (simp; omega)))) | with_reducible refine Kp.trans ?_ (by assumption))))⟩
    · have hv : decide (B < A) = false := decide_eq_false h2
      have HE : cmpN A B = 0 := by unfold cmpN; rw [if_neg h1, if_neg h2]
      rw [hv]
      clear hv
      go_wp2
      go_ret
      exact ⟨by rw [HE]; rfl, (by (repeat (first | with_reducible assumption | with_reducible exact Kp.refl _ | with_reducible refine Kp.drew ?_ | with_reducible refine Kp.drewN ?_ _ | with_reducible refine Kp.alloc ?_ _ | ((with_reducible refine Kp.setCell ?_ ?_ _); rotate_left; (focus (first | omega | (simp; done) | (simp; omega)))) | with_reducible refine Kp.trans ?_ (by assumption))))⟩
end Go.Proofs.Ytepckgcbncdibaa
