/- Pieces of the sums of a list: the walks of Len, within, Boxes, Of. -/
import Derived.Test.YteipfamaclildaaSumsNew

namespace Go.Proofs.Yteipfamaclildaa

open Go.RowKit

theorem len_nil (w : World) : Calls Try.prog 22 #[.pointer none] w fun e w' => e = .returned (.int .i64 0) ∧ w = w' := by
  go_enter Try.func22, Try.ntmps22
  go_wp2
  go_ret
  exact ⟨rfl, rfl⟩
theorem len_any {p : Nat} {a : Option Addr} {cap ba bb : Nat} {l : List Item} {k : Nat} {w : World} (h : SumsK w p a cap ba bb l k) : Calls Try.prog 22 #[.pointer (some ⟨p, 0, none⟩)] w fun e w' => e = .returned (.int .i64 (l.length : Nat)) ∧ w = w' := by
  have c0 := h.head.cell 0 rfl
  clear h
  go_enter Try.func22, Try.ntmps22
  go_wp2
  go_ret
  exact ⟨rfl, rfl⟩
theorem within_of (r : Value) (n x y : Int) {w : World} (hl : Calls Try.prog 22 #[r] w fun e w' => e = .returned (.int .i64 n) ∧ w = w') (hr : ∃ q, r = .pointer q) : Calls Try.prog 49 #[r, .int .i64 x, .int .i64 y] w
    fun e w' => e = .returned (.tuple #[.int .i64 (max x 0), .int .i64 (min y n), .bool (decide (max x 0 < min y n))]) ∧ w = w' := by
  obtain ⟨q, rfl⟩ := hr
  by_cases hx : x < 0
  · have e1 : max x 0 = 0 := by omega
    by_cases hy : y ≤ n
    · have e2 : min y n = y := by omega
      rw [e1, e2]
      go_enter Try.func49, Try.ntmps49
      go_wp2_with (go_at_call 22; go_must (refine hl.mono ?_); rintro e w' ⟨rfl, rfl⟩)
      exact bodyPost_ret (v := .tuple #[.int .i64 0, .int .i64 y, .bool (decide (0 < y))]) (by simp [results, Try.results49, go_sem]) rfl ⟨rfl, rfl⟩
    · have e2 : min y n = n := by omega
      rw [e1, e2]
      go_enter Try.func49, Try.ntmps49
      go_wp2_with (go_at_call 22; go_must (refine hl.mono ?_); rintro e w' ⟨rfl, rfl⟩)
      exact bodyPost_ret (v := .tuple #[.int .i64 0, .int .i64 n, .bool (decide (0 < n))]) (by simp [results, Try.results49, go_sem]) rfl ⟨rfl, rfl⟩
  · have e1 : max x 0 = x := by omega
    by_cases hy : y ≤ n
    · have e2 : min y n = y := by omega
      rw [e1, e2]
      go_enter Try.func49, Try.ntmps49
      go_wp2_with (go_at_call 22; go_must (refine hl.mono ?_); rintro e w' ⟨rfl, rfl⟩)
      exact bodyPost_ret (v := .tuple #[.int .i64 x, .int .i64 y, .bool (decide (x < y))]) (by simp [results, Try.results49, go_sem]) rfl ⟨rfl, rfl⟩
    · have e2 : min y n = n := by omega
      rw [e1, e2]
      go_enter Try.func49, Try.ntmps49
      go_wp2_with (go_at_call 22; go_must (refine hl.mono ?_); rintro e w' ⟨rfl, rfl⟩)
      exact bodyPost_ret (v := .tuple #[.int .i64 x, .int .i64 n, .bool (decide (x < n))]) (by simp [results, Try.results49, go_sem]) rfl ⟨rfl, rfl⟩

theorem boxes_nil (x y : Int) (w : World) : Calls Try.prog 20 #[.pointer none, .int .i64 x, .int .i64 y] w fun e w' => e = .returned (.int .i64 0) ∧ w = w' := by
  have hw := within_of (.pointer none) 0 x y (len_nil w) ⟨_, rfl⟩
  have hf : decide (max x 0 < min y 0) = false := decide_eq_false (by omega)
  rw [hf] at hw
  obtain ⟨a, ha⟩ : ∃ a, max x 0 = a := ⟨_, rfl⟩
  obtain ⟨b, hb⟩ : ∃ b, min y 0 = b := ⟨_, rfl⟩
  rw [ha, hb] at hw
  clear hf ha hb
  go_enter Try.func20, Try.ntmps20
  go_wp2_with (go_at_call 49; go_must (refine hw.mono ?_); rintro e w' ⟨rfl, rfl⟩)
  go_ret
  exact ⟨rfl, rfl⟩
theorem of_nil (x y : Int) (w : World) : Calls Try.prog 15 #[.pointer none, .int .i64 x, .int .i64 y] w fun e w' => e = .returned (.agg #[.int .i64 0, .int .i64 0, .int .i64 0, .int .i64 0, .int .i64 0, .int .i64 0]) ∧ Kp w w' := by
  have hw := fun w => within_of (.pointer none) 0 x y (len_nil w) ⟨_, rfl⟩
  have hf : decide (max x 0 < min y 0) = false := decide_eq_false (by omega)
  rw [hf] at hw
  obtain ⟨a, ha⟩ : ∃ a, max x 0 = a := ⟨_, rfl⟩
  obtain ⟨b, hb⟩ : ∃ b, min y 0 = b := ⟨_, rfl⟩
  rw [ha, hb] at hw
  clear hf ha hb
  go_enter Try.func15, Try.ntmps15
  go_wp2_with (go_at_call 49; go_must (refine (hw _).mono ?_); rintro e w' ⟨rfl, rfl⟩)
  exact bodyPost_ret (v := .agg #[.int .i64 0, .int .i64 0, .int .i64 0, .int .i64 0, .int .i64 0, .int .i64 0]) (by simp [results, Try.results15, go_sem]) rfl ⟨rfl, (by (repeat (first | with_reducible assumption | with_reducible exact Kp.refl _ | with_reducible refine Kp.drew ?_ | with_reducible refine Kp.drewN ?_ _ | with_reducible refine Kp.alloc ?_ _ | ((with_reducible refine Kp.setCell ?_ ?_ _); rotate_left; (focus (first | omega | (simp; done) | (simp; omega)))) | with_reducible refine Kp.trans ?_ (by assumption))))⟩
theorem glues_nil (x y : Int) (w : World) : Calls Try.prog 18 #[.pointer none, .int .i64 x, .int .i64 y] w fun e w' => e = .returned (.slice none 0 0) ∧ w = w' := by
  have hw := within_of (.pointer none) 0 x y (len_nil w) ⟨_, rfl⟩
  have hf : decide (max x 0 < min y 0) = false := decide_eq_false (by omega)
  rw [hf] at hw
  obtain ⟨a, ha⟩ : ∃ a, max x 0 = a := ⟨_, rfl⟩
  obtain ⟨b, hb⟩ : ∃ b, min y 0 = b := ⟨_, rfl⟩
  rw [ha, hb] at hw
  clear hf ha hb
  go_enter Try.func18, Try.ntmps18
  go_wp2_with (go_at_call 49; go_must (refine hw.mono ?_); rintro e w' ⟨rfl, rfl⟩)
  go_ret
  exact ⟨rfl, rfl⟩

/-- The piece from x to y. -/
def piece (l : List Item) (x y : Int) : List Item := (l.take y.toNat).drop x.toNat
theorem piece_none {l : List Item} {x y : Int} (h : ¬ max x 0 < min y (l.length : Nat)) : piece l x y = [] := by
  unfold piece
  apply List.drop_eq_nil_of_le
  rw [List.length_take]
  omega
theorem piece_some {l : List Item} {x y : Int} {i j : Nat} (hi : max x 0 = (i : Int)) (hj : min y (l.length : Nat) = (j : Int)) (h : i < j) : l.take j = l.take i ++ piece l x y := by
  unfold piece
  have e1 : x.toNat = i := by omega
  have e2 : l.take y.toNat = l.take j := by rw [List.take_eq_take_iff]; omega
  rw [e1, e2]
  have e3 : (l.take j).take i = l.take i := by rw [List.take_take, Nat.min_eq_left (by omega)]
  rw [← e3, List.take_append_drop]

theorem boxes_any {p : Nat} {a : Option Addr} {cap ba bb : Nat} {l : List Item} (x y : Int) {w : World} (h : SumsK w p a cap ba bb l l.length) (hf : fairL l = true) (h4 : l.length ≤ 4096) :
    Calls Try.prog 20 #[.pointer (some ⟨p, 0, none⟩), .int .i64 x, .int .i64 y] w fun e w' => e = .returned (.int .i64 (bsum (piece l x y))) ∧ Kp w w' := by
  have hw := within_of (.pointer (some ⟨p, 0, none⟩)) (l.length : Nat) x y (len_any h) ⟨_, rfl⟩
  by_cases hlt : max x 0 < min y (l.length : Nat)
  · obtain ⟨i, hi⟩ := Int.eq_ofNat_of_zero_le (show 0 ≤ max x 0 by omega)
    obtain ⟨j, hj⟩ := Int.eq_ofNat_of_zero_le (show 0 ≤ min y (l.length : Nat) by omega)
    have hij : i < j := by omega
    have hjl : j ≤ l.length := by omega
    have hp := piece_some hi hj hij
    have hb := bsum_append (l.take i) (piece l x y)
    rw [← hp] at hb
    rw [decide_eq_true hlt, hi, hj] at hw
    have z2 := h.head.cell 2 rfl
    have g0 := h.boxes.at i (by omega)
    have g1 := h.boxes.at j (by omega)
    rw [boxF_at l (show i ≤ l.length by omega)] at g0
    rw [boxF_at l hjl] at g1
    have b0 := bsum_within (l.take i) (fairL_take hf i)
    have b1 := bsum_within (l.take j) (fairL_take hf j)
    have l0 : (l.take i).length ≤ 4096 := by rw [List.length_take]; omega
    have l1 : (l.take j).length ≤ 4096 := by rw [List.length_take]; omega
    obtain ⟨m, hm⟩ : ∃ m, bsum (l.take i) = m := ⟨_, rfl⟩
    obtain ⟨n, hn⟩ : ∃ n, bsum (l.take j) = n := ⟨_, rfl⟩
    rw [hm] at b0 g0 hb
    rw [hn] at b1 g1 hb
    have hwr : IntKind.i64.wrap (n - m) = n - m := by rw [IntKind.wrap_i64]; omega
    have hr : bsum (piece l x y) = n - m := by omega
    rw [hr]
    have i1 : (i : Int) < (l.length : Int) + 1 := by omega
    have i2 : (j : Int) < (l.length : Int) + 1 := by omega
    clear hp hb b0 b1 l0 l1 hm hn hr hi hj hlt h hf
    go_enter Try.func20, Try.ntmps20
    go_wp2_with (go_at_call 49; go_must (refine hw.mono ?_); rintro e w' ⟨rfl, rfl⟩)
    go_quiet (fail)
    go_wp2
    go_ret
    exact ⟨rfl, (by (repeat (first | with_reducible assumption | with_reducible exact Kp.refl _ | with_reducible refine Kp.drew ?_ | with_reducible refine Kp.drewN ?_ _ | with_reducible refine Kp.alloc ?_ _ | ((with_reducible refine Kp.setCell ?_ ?_ _); rotate_left; (focus (first | omega | (simp; done) | (simp; omega)))) | with_reducible refine Kp.trans ?_ (by assumption))))⟩
  · rw [piece_none hlt]
    rw [decide_eq_false hlt] at hw
    obtain ⟨a, ha⟩ : ∃ a, max x 0 = a := ⟨_, rfl⟩
    obtain ⟨b, hb⟩ : ∃ b, min y (l.length : Nat) = b := ⟨_, rfl⟩
    rw [ha, hb] at hw
    clear h ha hb hlt hf h4
    go_enter Try.func20, Try.ntmps20
    go_wp2_with (go_at_call 49; go_must (refine hw.mono ?_); rintro e w' ⟨rfl, rfl⟩)
    go_ret
    exact ⟨rfl, (by (repeat (first | with_reducible assumption | with_reducible exact Kp.refl _ | with_reducible refine Kp.drew ?_ | with_reducible refine Kp.drewN ?_ _ | with_reducible refine Kp.alloc ?_ _ | ((with_reducible refine Kp.setCell ?_ ?_ _); rotate_left; (focus (first | omega | (simp; done) | (simp; omega)))) | with_reducible refine Kp.trans ?_ (by assumption))))⟩

theorem ahead_cells {w : World} {ba : Nat} {l : List Item} {k i : Nat} {s0 s1 s2 s3 s4 s5 : Int} {t : TypeId} (h : Blk w ba (intsF ((l.length + 1) * 6) (aheadF l k)) t) (hi : i ≤ k) (hl : i ≤ l.length) (hs : psum (l.take i) = ⟨s0, s1, s2, s3, s4, s5⟩) :
    w.cell? ⟨ba, i * 6, none⟩ = some (.int .i64 s0) ∧ w.cell? ⟨ba, i * 6 + 1, none⟩ = some (.int .i64 s1) ∧ w.cell? ⟨ba, i * 6 + 2, none⟩ = some (.int .i64 s2) ∧ w.cell? ⟨ba, i * 6 + 3, none⟩ = some (.int .i64 s3) ∧ w.cell? ⟨ba, i * 6 + 4, none⟩ = some (.int .i64 s4) ∧ w.cell? ⟨ba, i * 6 + 5, none⟩ = some (.int .i64 s5) := by
  have hc : ∀ c, c < 6 → w.cell? ⟨ba, i * 6 + c, none⟩ = some (.int .i64 (comp ⟨s0, s1, s2, s3, s4, s5⟩ c)) := fun c hc => by
    have e := h.at (i * 6 + c) (by omega)
    rw [aheadF_at l hi hc, hs] at e; exact e
  exact ⟨hc 0 (by decide), hc 1 (by decide), hc 2 (by decide), hc 3 (by decide), hc 4 (by decide), hc 5 (by decide)⟩

set_option maxRecDepth 100000 in
set_option maxHeartbeats 4000000 in
theorem of_any {p : Nat} {a : Option Addr} {cap ba bb : Nat} {l : List Item} (x y : Int) {w : World} (h : SumsK w p a cap ba bb l l.length) (hf : fairL l = true) (h4 : l.length ≤ 4096) :
    Calls Try.prog 15 #[.pointer (some ⟨p, 0, none⟩), .int .i64 x, .int .i64 y] w fun e w' => e = .returned (psum (piece l x y)).v ∧ Kp w w' := by
  have hw := fun (w' : World) (k : Kp w w') => within_of (.pointer (some ⟨p, 0, none⟩)) (l.length : Nat) x y (len_any (h.kp k)) ⟨_, rfl⟩
  by_cases hlt : max x 0 < min y (l.length : Nat)
  · obtain ⟨i, hi⟩ := Int.eq_ofNat_of_zero_le (show 0 ≤ max x 0 by omega)
    obtain ⟨j, hj⟩ := Int.eq_ofNat_of_zero_le (show 0 ≤ min y (l.length : Nat) by omega)
    have hij : i < j := by omega
    have hjl : j ≤ l.length := by omega
    have hp := piece_some hi hj hij
    have hb := psum_append (l.take i) (piece l x y)
    rw [← hp] at hb
    rw [decide_eq_true hlt, hi, hj] at hw
    have b0 := psum_within (l.take i) (fairL_take hf i)
    have b1 := psum_within (l.take j) (fairL_take hf j)
    have l0 : (l.take i).length ≤ 4096 := by rw [List.length_take]; omega
    have l1 : (l.take j).length ≤ 4096 := by rw [List.length_take]; omega
    obtain ⟨⟨o0, o1, o2, o3, o4, o5⟩, hs⟩ : ∃ s, psum (l.take i) = s := ⟨_, rfl⟩
    obtain ⟨⟨t0, t1, t2, t3, t4, t5⟩, ht⟩ : ∃ s, psum (l.take j) = s := ⟨_, rfl⟩
    obtain ⟨⟨u0, u1, u2, u3, u4, u5⟩, hu⟩ : ∃ s, psum (piece l x y) = s := ⟨_, rfl⟩
    rw [hs] at b0 hb
    rw [ht] at b1 hb
    rw [hu] at hb ⊢
    have hd := sub_exact b1 b0 (by omega)
    rw [hb, Tot.plus_less] at hd
    rw [← hb] at hd
    have cS := fun w => totSub_any t0 t1 t2 t3 t4 t5 o0 o1 o2 o3 o4 o5 w (within_ok b1 (by omega)) (within_ok b0 (by omega))
    rw [hd.1, hd.2] at cS
    simp only at cS
    have CS := Lib.hid cS
    have i1 : (i : Int) < (l.length : Int) + 1 := by omega
    have i2 : (j : Int) < (l.length : Int) + 1 := by omega
    have hsi : i ≤ l.length := by omega
    have HW := Lib.hid hw
    clear hp hb b0 b1 l0 l1 hi hj hlt hf hd cS hu hw
    go_enter Try.func15, Try.ntmps15
    go_wp2_with (go_at_call 49; go_must (refine (HW.out _ ((by (repeat (first | with_reducible assumption | with_reducible exact Kp.refl _ | with_reducible refine Kp.drew ?_ | with_reducible refine Kp.drewN ?_ _ | with_reducible refine Kp.alloc ?_ _ | ((with_reducible refine Kp.setCell ?_ ?_ _); rotate_left; (focus (first | omega | (simp; done) | (simp; omega)))) | with_reducible refine Kp.trans ?_ (by assumption)))) : Kp w _)).mono ?_); rintro e w' ⟨rfl, rfl⟩)
    
    refine named_world (F := fun w2 => Blk w2 w.heap.size (ints [0, 0, 0, 0, 0, 0]) 31 ∧ Kp w w2) ⟨(by (repeat (first | with_reducible assumption | ((with_reducible refine Blk.newL ?_ ?_); (focus (first | (simp; done) | omega)); rfl) | with_reducible refine Blk.drew ?_ | with_reducible refine Blk.drewN ?_ _ | with_reducible refine Blk.alloc ?_ _ | ((with_reducible refine Blk.other ?_ ?_ _); rotate_left; (focus (first | with_reducible assumption | omega | (simp; done) | (simp; omega))))))), (by (repeat (first | with_reducible assumption | with_reducible exact Kp.refl _ | with_reducible refine Kp.drew ?_ | with_reducible refine Kp.drewN ?_ _ | with_reducible refine Kp.alloc ?_ _ | ((with_reducible refine Kp.setCell ?_ ?_ _); rotate_left; (focus (first | omega | (simp; done) | (simp; omega)))) | with_reducible refine Kp.trans ?_ (by assumption))))⟩ ?_; rintro w2 ⟨x6, kw2⟩; have x6_0 := x6.cell 0 rfl; have x6_1 := x6.cell 1 rfl; have x6_2 := x6.cell 2 rfl; have x6_3 := x6.cell 3 rfl; have x6_4 := x6.cell 4 rfl; have x6_5 := x6.cell 5 rfl; have x6_ne := x6.lt; have x6_n1 := Nat.lt_add_one_of_lt x6_ne; have x6_n2 := Nat.lt_add_one_of_lt x6_n1; have x6_f0 := x6.free 0; have x6_f1 := x6.free 1; have x6_f2 := x6.free 2; have x6_f3 := x6.free 3; have x6_f4 := x6.free 4; have x6_f5 := x6.free 5
    have h2 := h.kp kw2
    have z1 := h2.head.cell 1 rfl
    obtain ⟨v0, v1, v2, v3, v4, v5⟩ := ahead_cells h2.ahead hsi hsi hs
    obtain ⟨m0, m1, m2, m3, m4, m5⟩ := ahead_cells h2.ahead hjl hjl ht
    have np := h2.head.lt
    have nb := h2.ahead.lt
    clear HW h
    go_cut [8] (fun v8 wd => ∃ q, v8 = .pointer (some ⟨q, 0, none⟩) ∧ Blk wd q [.int .i64 u0, .int .i64 u1, .int .i64 u2, .int .i64 u3, .int .i64 u4, .int .i64 u5] 31 ∧ Blk wd w.heap.size (ints [0, 0, 0, 0, 0, 0]) 31 ∧ Kp w wd)
    case first =>
     (refine wp_region_held_drew (S := (fun w' => (∀ b o, b < w2.heap.size → w'.cell? ⟨b, o, none⟩ = w2.cell? ⟨b, o, none⟩) ∧ Kp w2 w')) (by kernel_rfl) ?_ (fun hHd => ?_); (focus ((try dsimp only); (first | with_reducible assumption | with_reducible exact held_start _ | with_reducible exact held_next (by assumption) (by assumption) | with_reducible exact held_alloc (by assumption) _ | with_reducible exact held_drew (by assumption) | ((with_reducible refine held_kp ?_); (repeat (first | with_reducible assumption | with_reducible exact Kp.refl _ | with_reducible refine Kp.drew ?_ | with_reducible refine Kp.drewN ?_ _ | with_reducible refine Kp.alloc ?_ _ | ((with_reducible refine Kp.setCell ?_ ?_ _); rotate_left; (focus (first | omega | (simp; done) | (simp; omega)))) | with_reducible refine Kp.trans ?_ (by assumption))))))))
     (refine takeH (i := 0) (oi := ?o1) (v := ?v1) ?h1 (by kernel_rfl) ?q1 (Or.inl ⟨?w1, ?y1⟩) (by assumption) ?r1; (case h1 => ((simp only [g1, g3]); rfl)); (case q1 => exact fun _ _ _ h => h); (case w1 => rfl); (case y1 => (intro w' hSw; (try dsimp only at hSw); go_simp; (try with_reducible rfl))); (try simp only [Act.put, s1, s2, s3]))
     (refine takeH (i := 1) (oi := ?o2) (v := ?v2) ?h2 (by kernel_rfl) ?q2 (Or.inl ⟨?w2, ?y2⟩) (by assumption) ?r2; (case h2 => ((simp only [g1, g2, g3]); rfl)); (case q2 => exact fun _ _ _ h => h); (case w2 => rfl); (case y2 => (intro w' hSw; (try dsimp only at hSw); go_simp; (try with_reducible rfl))); (try simp only [Act.put, s1, s2, s3]))
     (refine takeH (i := 2) (oi := ?o3) (v := ?v3) ?h3 (by kernel_rfl) ?q3 (Or.inl ⟨?w3, ?y3⟩) (by assumption) ?r3; (case h3 => ((simp only [g1, g2, g3]); rfl)); (case q3 => exact fun _ _ _ h => h); (case w3 => rfl); (case y3 => (intro w' hSw; (try dsimp only at hSw); go_simp; (try with_reducible rfl))); (try simp only [Act.put, s1, s2, s3]))
     (refine takeH (i := 3) (oi := ?o4) (v := ?v4) ?h4 (by kernel_rfl) ?q4 (Or.inl ⟨?w4, ?y4⟩) (by assumption) ?r4; (case h4 => ((simp only [g1, g2, g3]); rfl)); (case q4 => exact fun _ _ _ h => h); (case w4 => rfl); (case y4 => (intro w' hSw; (try dsimp only at hSw); go_simp; (try with_reducible rfl))); (try simp only [Act.put, s1, s2, s3]))
     (refine takeH (i := 4) (oi := ?o5) (v := ?v5) ?h5 (by kernel_rfl) ?q5 (Or.inl ⟨?w5, ?y5⟩) (by assumption) ?r5; (case h5 => ((simp only [g1, g2, g3]); rfl)); (case q5 => exact fun _ _ _ h => h); (case w5 => rfl); (case y5 => (intro w' hSw; (try dsimp only at hSw); go_simp; (try with_reducible rfl))); (try simp only [Act.put, s1, s2, s3]))
     (refine takeH (i := 5) (oi := ?o6) (v := ?v6) ?h6 (by kernel_rfl) ?q6 (Or.inl ⟨?w6, ?y6⟩) (by assumption) ?r6; (case h6 => ((simp only [g1, g2, g3]); rfl)); (case q6 => exact fun _ _ _ h => h); (case w6 => rfl); (case y6 => (intro w' hSw; (try dsimp only at hSw); go_simp; (try with_reducible rfl))); (try simp only [Act.put, s1, s2, s3]))
     (refine takeH (i := 6) (oi := ?o7) (v := ?v7) ?h7 (by kernel_rfl) ?q7 (Or.inl ⟨?w7, ?y7⟩) (by assumption) ?r7; (case h7 => ((simp only [g1, g2, g3]); rfl)); (case q7 => exact fun _ _ _ h => h); (case w7 => rfl); (case y7 => (intro w' hSw; (try dsimp only at hSw); go_simp; (try with_reducible rfl))); (try simp only [Act.put, s1, s2, s3]))
     (refine takeH (i := 7) (oi := ?o8) (v := ?v8) ?h8 (by kernel_rfl) ?q8 (Or.inl ⟨?w8, ?y8⟩) (by assumption) ?r8; (case h8 => ((simp only [g1, g2, g3]); rfl)); (case q8 => exact fun _ _ _ h => h); (case w8 => rfl); (case y8 => (intro w' hSw; (try dsimp only at hSw); go_simp; (try with_reducible rfl))); (try simp only [Act.put, s1, s2, s3]))
     (refine takeH (i := 8) (oi := ?o9) (v := ?v9) ?h9 (by kernel_rfl) ?q9 (Or.inl ⟨?w9, ?y9⟩) (by assumption) ?r9; (case h9 => ((simp only [g1, g2, g3]); rfl)); (case q9 => exact fun _ _ _ h => h); (case w9 => rfl); (case y9 => (intro w' hSw; (try dsimp only at hSw); go_simp; (try with_reducible rfl))); (try simp only [Act.put, s1, s2, s3]))
     (refine takeH (i := 9) (oi := ?o10) (v := ?v10) ?h10 (by kernel_rfl) ?q10 (Or.inl ⟨?w10, ?y10⟩) (by assumption) ?r10; (case h10 => ((simp only [g1, g2, g3]); rfl)); (case q10 => exact fun _ _ _ h => h); (case w10 => rfl); (case y10 => (intro w' hSw; (try dsimp only at hSw); go_simp; (try with_reducible rfl))); (try simp only [Act.put, s1, s2, s3]))
     (refine takeH (i := 10) (oi := ?o11) (v := ?v11) ?h11 (by kernel_rfl) ?q11 (Or.inl ⟨?w11, ?y11⟩) (by assumption) ?r11; (case h11 => ((simp only [g1, g2, g3]); rfl)); (case q11 => exact fun _ _ _ h => h); (case w11 => rfl); (case y11 => (intro w' hSw; (try dsimp only at hSw); go_simp; (try with_reducible rfl))); (try simp only [Act.put, s1, s2, s3]))
     (refine takeH (i := 11) (oi := ?o12) (v := ?v12) ?h12 (by kernel_rfl) ?q12 (Or.inl ⟨?w12, ?y12⟩) (by assumption) ?r12; (case h12 => ((simp only [g1, g2, g3]); rfl)); (case q12 => exact fun _ _ _ h => h); (case w12 => rfl); (case y12 => (intro w' hSw; (try dsimp only at hSw); go_simp; (try with_reducible rfl))); (try simp only [Act.put, s1, s2, s3]))
     (refine takeH (i := 12) (oi := ?o13) (v := ?v13) ?h13 (by kernel_rfl) ?q13 (Or.inl ⟨?w13, ?y13⟩) (by assumption) ?r13; (case h13 => ((simp only [g1, g2, g3]); rfl)); (case q13 => exact fun _ _ _ h => h); (case w13 => rfl); (case y13 => (intro w' hSw; (try dsimp only at hSw); go_simp; (try with_reducible rfl))); (try simp only [Act.put, s1, s2, s3]))
     (refine takeH (i := 13) (oi := ?o14) (v := ?v14) ?h14 (by kernel_rfl) ?q14 (Or.inl ⟨?w14, ?y14⟩) (by assumption) ?r14; (case h14 => ((simp only [g1, g2, g3]); rfl)); (case q14 => exact fun _ _ _ h => h); (case w14 => rfl); (case y14 => (intro w' hSw; (try dsimp only at hSw); go_simp; (try with_reducible rfl))); (try simp only [Act.put, s1, s2, s3]))
     (refine wpAnyH_ready (rs := [14, 18]) (by kernel_rfl) (by simp) ?_; refine (AllReadyH.cons (o := ?o15) ?h15 (fun K hK => ?s15) (AllReadyH.cons (o := ?o16) ?h16 (fun K hK => ?s16) AllReadyH.nil)); (case h15 => (first | ((simp only [g1, g2, g3]); rfl) | rfl)); (case h16 => (first | ((simp only [g1, g2, g3]); rfl) | rfl)))
     (go_simp; (first | (go_at_call 50; go_must (refine (CS.out _).mono ?_); rintro e w5 ⟨rfl, kk⟩; have ksz := (hHd.2.trans kk).size; (try (have zb := Blk.kp (by first | with_reducible assumption | exact Blk.new _ _ _ | exact (Blk.new _ _ _).drew) kk; have zc0 := zb.cell 0 rfl; have zc1 := zb.cell 1 rfl; have zc2 := zb.cell 2 rfl; have zc3 := zb.cell 3 rfl; have zc4 := zb.cell 4 rfl; have zc5 := zb.cell 5 rfl; have zf0 := zb.free 0; have zf1 := zb.free 1; have zf2 := zb.free 2; have zf3 := zb.free 3; have zf4 := zb.free 4; have zf5 := zb.free 5)))); (try dsimp only); refine hK.out _ _ ?_ (fun hHd => ?_); (focus ((try dsimp only); (first | with_reducible assumption | with_reducible exact held_next (by assumption) (by assumption) | with_reducible exact held_alloc (by assumption) _))); clear hK K; (try simp only [Act.put, s1, s2, s3]))
     (refine takeH (i := 15) (oi := ?o17) (v := ?v17) ?h17 (by kernel_rfl) ?q17 (Or.inl ⟨?w17, ?y17⟩) (by assumption) ?r17; (case h17 => ((simp only [g1, g2, g3]); rfl)); (case q17 => exact fun _ _ _ h => h); (case w17 => rfl); (case y17 => (intro w' hSw; (try dsimp only at hSw); go_simp; (try with_reducible rfl))); (try simp only [Act.put, s1, s2, s3]))
     (refine takeH (i := 16) (oi := ?o18) (v := ?v18) ?h18 (by kernel_rfl) ?q18 (Or.inl ⟨?w18, ?y18⟩) (by assumption) ?r18; (case h18 => ((simp only [g1, g2, g3]); rfl)); (case q18 => exact fun _ _ _ h => h); (case w18 => rfl); (case y18 => (intro w' hSw; (try dsimp only at hSw); go_simp; (try with_reducible rfl))); (try simp only [Act.put, s1, s2, s3]))
     (refine takeH (i := 17) (oi := ?o19) (v := ?v19) ?h19 (by kernel_rfl) ?q19 (Or.inl ⟨?w19, ?y19⟩) (by assumption) ?r19; (case h19 => ((simp only [g1, g2, g3]); rfl)); (case q19 => exact fun _ _ _ h => h); (case w19 => rfl); (case y19 => (intro w' hSw; (try dsimp only at hSw); go_simp; (try with_reducible rfl))); (try simp only [Act.put, s1, s2, s3]))
     (refine wpAnyH_ready (rs := [18]) (by kernel_rfl) (by simp) ?_; refine AllReadyH.cons (o := ?o20) ?h20 (fun K hK => ?s20) AllReadyH.nil; (case h20 => (first | ((simp only [g1, g2, g3]); rfl) | rfl)); go_simp; (try dsimp only); refine hK.out _ _ ?_ (fun hHd => ?_); (focus ((try dsimp only); (first | with_reducible assumption | with_reducible exact held_start _ | with_reducible exact held_next (by assumption) (by assumption) | with_reducible exact held_alloc (by assumption) _ | with_reducible exact held_drew (by assumption) | ((with_reducible refine held_kp ?_); (repeat (first | with_reducible assumption | with_reducible exact Kp.refl _ | with_reducible refine Kp.drew ?_ | with_reducible refine Kp.drewN ?_ _ | with_reducible refine Kp.alloc ?_ _ | ((with_reducible refine Kp.setCell ?_ ?_ _); rotate_left; (focus (first | omega | (simp; done) | (simp; omega)))) | with_reducible refine Kp.trans ?_ (by assumption))))))); clear hK K; (try simp only [Act.put, s1, s2, s3]))
     (refine wpAnyH_ready (rs := [19]) (by kernel_rfl) (by simp) ?_; refine AllReadyH.cons (o := ?o21) ?h21 (fun K hK => ?s21) AllReadyH.nil; (case h21 => (first | ((simp only [g1, g2, g3]); rfl) | rfl)); go_simp; (try dsimp only); refine hK.out _ _ ?_ (fun hHd => ?_); (focus ((try dsimp only); (first | with_reducible assumption | with_reducible exact held_start _ | with_reducible exact held_next (by assumption) (by assumption) | with_reducible exact held_alloc (by assumption) _ | with_reducible exact held_drew (by assumption) | ((with_reducible refine held_kp ?_); (repeat (first | with_reducible assumption | with_reducible exact Kp.refl _ | with_reducible refine Kp.drew ?_ | with_reducible refine Kp.drewN ?_ _ | with_reducible refine Kp.alloc ?_ _ | ((with_reducible refine Kp.setCell ?_ ?_ _); rotate_left; (focus (first | omega | (simp; done) | (simp; omega)))) | with_reducible refine Kp.trans ?_ (by assumption))))))); clear hK K; (try simp only [Act.put, s1, s2, s3]))
     (refine takeH (i := 20) (oi := ?o22) (v := ?v22) ?h22 (by kernel_rfl) ?q22 (Or.inl ⟨?w22, ?y22⟩) (by assumption) ?r22; (case h22 => ((simp only [g1, g2, g3]); rfl)); (case q22 => exact fun _ _ _ h => h); (case w22 => rfl); (case y22 => (intro w' hSw; (try dsimp only at hSw); go_simp; (try with_reducible rfl))); (try simp only [Act.put, s1, s2, s3]))
     refine wpAnyH_done (by kernel_rfl) ?_ _
     rotate_left
     (go_simp; (try dsimp only); refine hK.out _ _ ?_ (fun hHd => ?_); (focus ((try dsimp only); (first | with_reducible assumption | with_reducible exact held_start _ | with_reducible exact held_next (by assumption) (by assumption) | with_reducible exact held_alloc (by assumption) _ | with_reducible exact held_drew (by assumption) | ((with_reducible refine held_kp ?_); (repeat (first | with_reducible assumption | with_reducible exact Kp.refl _ | with_reducible refine Kp.drew ?_ | with_reducible refine Kp.drewN ?_ _ | with_reducible refine Kp.alloc ?_ _ | ((with_reducible refine Kp.setCell ?_ ?_ _); rotate_left; (focus (first | omega | (simp; done) | (simp; omega)))) | with_reducible refine Kp.trans ?_ (by assumption))))))); clear hK K; (try simp only [Act.put, s1, s2, s3]))
     (refine wpAnyH_ready (rs := [14]) (by kernel_rfl) (by simp) ?_; refine AllReadyH.cons (o := ?o23) ?h23 (fun K hK => ?s23) AllReadyH.nil; (case h23 => (first | ((simp only [g1, g2, g3]); rfl) | rfl)); go_simp; (first | (go_at_call 50; go_must (refine (CS.out _).mono ?_); rintro e w5 ⟨rfl, kk⟩; have ksz := (hHd.2.trans kk).size; (try (have zb := Blk.kp (by first | with_reducible assumption | exact Blk.new _ _ _ | exact (Blk.new _ _ _).drew) kk; have zc0 := zb.cell 0 rfl; have zc1 := zb.cell 1 rfl; have zc2 := zb.cell 2 rfl; have zc3 := zb.cell 3 rfl; have zc4 := zb.cell 4 rfl; have zc5 := zb.cell 5 rfl; have zf0 := zb.free 0; have zf1 := zb.free 1; have zf2 := zb.free 2; have zf3 := zb.free 3; have zf4 := zb.free 4; have zf5 := zb.free 5)))); (try dsimp only); refine hK.out _ _ ?_ (fun hHd => ?_); (focus ((try dsimp only); (first | with_reducible assumption | with_reducible exact held_next (by assumption) (by assumption) | with_reducible exact held_alloc (by assumption) _))); clear hK K; (try simp only [Act.put, s1, s2, s3]))
     (refine takeH (i := 15) (oi := ?o24) (v := ?v24) ?h24 (by kernel_rfl) ?q24 (Or.inl ⟨?w24, ?y24⟩) (by assumption) ?r24; (case h24 => ((simp only [g1, g2, g3]); rfl)); (case q24 => exact fun _ _ _ h => h); (case w24 => rfl); (case y24 => (intro w' hSw; (try dsimp only at hSw); go_simp; (try with_reducible rfl))); (try simp only [Act.put, s1, s2, s3]))
     (refine takeH (i := 16) (oi := ?o25) (v := ?v25) ?h25 (by kernel_rfl) ?q25 (Or.inl ⟨?w25, ?y25⟩) (by assumption) ?r25; (case h25 => ((simp only [g1, g2, g3]); rfl)); (case q25 => exact fun _ _ _ h => h); (case w25 => rfl); (case y25 => (intro w' hSw; (try dsimp only at hSw); go_simp; (try with_reducible rfl))); (try simp only [Act.put, s1, s2, s3]))
     (refine takeH (i := 17) (oi := ?o26) (v := ?v26) ?h26 (by kernel_rfl) ?q26 (Or.inl ⟨?w26, ?y26⟩) (by assumption) ?r26; (case h26 => ((simp only [g1, g2, g3]); rfl)); (case q26 => exact fun _ _ _ h => h); (case w26 => rfl); (case y26 => (intro w' hSw; (try dsimp only at hSw); go_simp; (try with_reducible rfl))); (try simp only [Act.put, s1, s2, s3]))
     (refine wpAnyH_ready (rs := [19]) (by kernel_rfl) (by simp) ?_; refine AllReadyH.cons (o := ?o27) ?h27 (fun K hK => ?s27) AllReadyH.nil; (case h27 => (first | ((simp only [g1, g2, g3]); rfl) | rfl)); go_simp; (try dsimp only); refine hK.out _ _ ?_ (fun hHd => ?_); (focus ((try dsimp only); (first | with_reducible assumption | with_reducible exact held_start _ | with_reducible exact held_next (by assumption) (by assumption) | with_reducible exact held_alloc (by assumption) _ | with_reducible exact held_drew (by assumption) | ((with_reducible refine held_kp ?_); (repeat (first | with_reducible assumption | with_reducible exact Kp.refl _ | with_reducible refine Kp.drew ?_ | with_reducible refine Kp.drewN ?_ _ | with_reducible refine Kp.alloc ?_ _ | ((with_reducible refine Kp.setCell ?_ ?_ _); rotate_left; (focus (first | omega | (simp; done) | (simp; omega)))) | with_reducible refine Kp.trans ?_ (by assumption))))))); clear hK K; (try simp only [Act.put, s1, s2, s3]))
     (refine takeH (i := 20) (oi := ?o28) (v := ?v28) ?h28 (by kernel_rfl) ?q28 (Or.inl ⟨?w28, ?y28⟩) (by assumption) ?r28; (case h28 => ((simp only [g1, g2, g3]); rfl)); (case q28 => exact fun _ _ _ h => h); (case w28 => rfl); (case y28 => (intro w' hSw; (try dsimp only at hSw); go_simp; (try with_reducible rfl))); (try simp only [Act.put, s1, s2, s3]))
     refine wpAnyH_done (by kernel_rfl) ?_ _
     rotate_left
     all_goals
      have k5 : Kp w2 w5 := ((by (repeat (first | with_reducible assumption | with_reducible exact Kp.refl _ | with_reducible refine Kp.drew ?_ | with_reducible refine Kp.drewN ?_ _ | with_reducible refine Kp.alloc ?_ _ | ((with_reducible refine Kp.setCell ?_ ?_ _); rotate_left; (focus (first | omega | (simp; done) | (simp; omega)))) | with_reducible refine Kp.trans ?_ (by assumption)))) : Kp w2 _).trans kk
      have y6 := x6.kp k5
      have yk := kw2.trans k5
      go_wp2
      go_meet
      case rel =>
        refine ⟨_, rfl, ?_, (by (repeat (first | with_reducible assumption | ((with_reducible refine Blk.newL ?_ ?_); (focus (first | (simp; done) | omega)); rfl) | with_reducible refine Blk.drew ?_ | with_reducible refine Blk.drewN ?_ _ | with_reducible refine Blk.alloc ?_ _ | ((with_reducible refine Blk.other ?_ ?_ _); rotate_left; (focus (first | with_reducible assumption | omega | (simp; done) | (simp; omega))))))), (by (repeat (first | with_reducible assumption | with_reducible exact Kp.refl _ | with_reducible refine Kp.drew ?_ | with_reducible refine Kp.drewN ?_ _ | with_reducible refine Kp.alloc ?_ _ | ((with_reducible refine Kp.setCell ?_ ?_ _); rotate_left; (focus (first | omega | (simp; done) | (simp; omega)))) | with_reducible refine Kp.trans ?_ (by assumption))))⟩
        first
          | ((with_reducible refine Blk.newL ?_ ?_); (focus (simp; done)); rfl)
          | exact (((((zb.set 0 (.int .i64 u0)).set 1 (.int .i64 u1)).set 2 (.int .i64 u2)).set 3 (.int .i64 u3)).set 4 (.int .i64 u4)).set 5 (.int .i64 u5)
    case rest =>
      obtain ⟨q, rfl, yq, y6, yk⟩ := hcut
      have r0 := yq.cell 0 rfl; have r1 := yq.cell 1 rfl; have r2 := yq.cell 2 rfl; have r3 := yq.cell 3 rfl; have r4 := yq.cell 4 rfl; have r5 := yq.cell 5 rfl
      have e0 := y6.cell 0 rfl; have e1 := y6.cell 1 rfl; have e2 := y6.cell 2 rfl; have e3 := y6.cell 3 rfl; have e4 := y6.cell 4 rfl; have e5 := y6.cell 5 rfl
      have f0 := y6.free 0; have f1 := y6.free 1; have f2 := y6.free 2; have f3 := y6.free 3; have f4 := y6.free 4; have f5 := y6.free 5
      go_wp2
      refine ret_blk (vs := [.int .i64 u0, .int .i64 u1, .int .i64 u2, .int .i64 u3, .int .i64 u4, .int .i64 u5]) (Blk.set (Blk.set (Blk.set (Blk.set (Blk.set (Blk.set y6 0 _) 1 _) 2 _) 3 _) 4 _) 5 _) ?_ rfl ⟨rfl, (by (repeat (first | with_reducible assumption | with_reducible exact Kp.refl _ | with_reducible refine Kp.drew ?_ | with_reducible refine Kp.drewN ?_ _ | with_reducible refine Kp.alloc ?_ _ | ((with_reducible refine Kp.setCell ?_ ?_ _); rotate_left; (focus (first | omega | (simp; done) | (simp; omega)))) | with_reducible refine Kp.trans ?_ (by assumption))))⟩; intro wz bz; have z0 := bz.cell 0 rfl; have z1 := bz.cell 1 rfl; have z2 := bz.cell 2 rfl; have z3 := bz.cell 3 rfl; have z4 := bz.cell 4 rfl; have z5 := bz.cell 5 rfl; simp [results, Try.results15, go_sem, z0, z1, z2, z3, z4, z5]
  · rw [piece_none hlt]
    rw [decide_eq_false hlt] at hw
    obtain ⟨a, ha⟩ : ∃ a, max x 0 = a := ⟨_, rfl⟩
    obtain ⟨b, hb⟩ : ∃ b, min y (l.length : Nat) = b := ⟨_, rfl⟩
    rw [ha, hb] at hw
    clear h ha hb hlt hf h4
    go_enter Try.func15, Try.ntmps15
    go_wp2_with (go_at_call 49; go_must (refine (hw _ ((by (repeat (first | with_reducible assumption | with_reducible exact Kp.refl _ | with_reducible refine Kp.drew ?_ | with_reducible refine Kp.drewN ?_ _ | with_reducible refine Kp.alloc ?_ _ | ((with_reducible refine Kp.setCell ?_ ?_ _); rotate_left; (focus (first | omega | (simp; done) | (simp; omega)))) | with_reducible refine Kp.trans ?_ (by assumption)))) : Kp w _)).mono ?_); rintro e w' ⟨rfl, rfl⟩)
    exact bodyPost_ret (v := .agg #[.int .i64 0, .int .i64 0, .int .i64 0, .int .i64 0, .int .i64 0, .int .i64 0]) (by simp [results, Try.results15, go_sem]) rfl ⟨rfl, (by (repeat (first | with_reducible assumption | with_reducible exact Kp.refl _ | with_reducible refine Kp.drew ?_ | with_reducible refine Kp.drewN ?_ _ | with_reducible refine Kp.alloc ?_ _ | ((with_reducible refine Kp.setCell ?_ ?_ _); rotate_left; (focus (first | omega | (simp; done) | (simp; omega)))) | with_reducible refine Kp.trans ?_ (by assumption))))⟩
end Go.Proofs.Yteipfamaclildaa
