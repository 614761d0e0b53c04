/- Pieces of the sums of a list: the walks of Len, within, Boxes, Of. -/
import Derived.Test.YteipfamaclildaaSumsNew

namespace Go.Proofs.Yteipfamaclildaa

open Go.RowKit

theorem len_nil (w : World) : Calls Try.prog 22 #[.pointer none] w fun e w' => e = .returned (.int .i64 0) ∧ w = w' := by
  go_enter Try.func22, Try.ntmps22
  go_wp2
  go_ret
  exact ⟨rfl, rfl⟩
theorem len_any {p : Nat} {a : Option Addr} {cap ba bb : Nat} {l : List Item} {k : Nat} {w : World} (h : SumsK w p a cap ba bb l k) : Calls Try.prog 22 #[.pointer (some ⟨p, 0, none⟩)] w fun e w' => e = .returned (.int .i64 (l.length : Nat)) ∧ w = w' := by
  have c0 := h.head.cell 0 rfl
  clear h
  go_enter Try.func22, Try.ntmps22
  go_wp2
  go_ret
  exact ⟨rfl, rfl⟩
theorem within_of (r : Value) (n x y : Int) {w : World} (hl : Calls Try.prog 22 #[r] w fun e w' => e = .returned (.int .i64 n) ∧ w = w') (hr : ∃ q, r = .pointer q) : Calls Try.prog 49 #[r, .int .i64 x, .int .i64 y] w
    fun e w' => e = .returned (.tuple #[.int .i64 (max x 0), .int .i64 (min y n), .bool (decide (max x 0 < min y n))]) ∧ w = w' := by
  obtain ⟨q, rfl⟩ := hr
  by_cases hx : x < 0
  · have e1 : max x 0 = 0 := by omega
    by_cases hy : y ≤ n
    · have e2 : min y n = y := by omega
      rw [e1, e2]
      go_enter Try.func49, Try.ntmps49
      go_wp2_with (go_at_call 22; go_must (refine hl.mono ?_); rintro e w' ⟨rfl, rfl⟩)
      exact bodyPost_ret (v := .tuple #[.int .i64 0, .int .i64 y, .bool (decide (0 < y))]) (by simp [results, Try.results49, go_sem]) rfl ⟨rfl, rfl⟩
    · have e2 : min y n = n := by omega
      rw [e1, e2]
      go_enter Try.func49, Try.ntmps49
      go_wp2_with (go_at_call 22; go_must (refine hl.mono ?_); rintro e w' ⟨rfl, rfl⟩)
      exact bodyPost_ret (v := .tuple #[.int .i64 0, .int .i64 n, .bool (decide (0 < n))]) (by simp [results, Try.results49, go_sem]) rfl ⟨rfl, rfl⟩
  · have e1 : max x 0 = x := by omega
    by_cases hy : y ≤ n
    · have e2 : min y n = y := by omega
      rw [e1, e2]
      go_enter Try.func49, Try.ntmps49
      go_wp2_with (go_at_call 22; go_must (refine hl.mono ?_); rintro e w' ⟨rfl, rfl⟩)
      exact bodyPost_ret (v := .tuple #[.int .i64 x, .int .i64 y, .bool (decide (x < y))]) (by simp [results, Try.results49, go_sem]) rfl ⟨rfl, rfl⟩
    · have e2 : min y n = n := by omega
      rw [e1, e2]
      go_enter Try.func49, Try.ntmps49
      go_wp2_with (go_at_call 22; go_must (refine hl.mono ?_); rintro e w' ⟨rfl, rfl⟩)
      exact bodyPost_ret (v := .tuple #[.int .i64 x, .int .i64 n, .bool (decide (x < n))]) (by simp [results, Try.results49, go_sem]) rfl ⟨rfl, rfl⟩

theorem boxes_nil (x y : Int) (w : World) : Calls Try.prog 20 #[.pointer none, .int .i64 x, .int .i64 y] w fun e w' => e = .returned (.int .i64 0) ∧ w = w' := by
  have hw := within_of (.pointer none) 0 x y (len_nil w) ⟨_, rfl⟩
  have hf : decide (max x 0 < min y 0) = false := decide_eq_false (by omega)
  rw [hf] at hw
  obtain ⟨a, ha⟩ : ∃ a, max x 0 = a := ⟨_, rfl⟩
  obtain ⟨b, hb⟩ : ∃ b, min y 0 = b := ⟨_, rfl⟩
  rw [ha, hb] at hw
  clear hf ha hb
  go_enter Try.func20, Try.ntmps20
  go_wp2_with (go_at_call 49; go_must (refine hw.mono ?_); rintro e w' ⟨rfl, rfl⟩)
  go_ret
  exact ⟨rfl, rfl⟩
theorem of_nil (x y : Int) (w : World) : Calls Try.prog 15 #[.pointer none, .int .i64 x, .int .i64 y] w fun e w' => e = .returned (.agg #[.int .i64 0, .int .i64 0, .int .i64 0, .int .i64 0, .int .i64 0, .int .i64 0]) ∧ Kp w w' := by
  have hw := fun w => within_of (.pointer none) 0 x y (len_nil w) ⟨_, rfl⟩
  have hf : decide (max x 0 < min y 0) = false := decide_eq_false (by omega)
  rw [hf] at hw
  obtain ⟨a, ha⟩ : ∃ a, max x 0 = a := ⟨_, rfl⟩
  obtain ⟨b, hb⟩ : ∃ b, min y 0 = b := ⟨_, rfl⟩
  rw [ha, hb] at hw
  clear hf ha hb
  go_enter Try.func15, Try.ntmps15
  go_wp2_with (go_at_call 49; go_must (refine (hw _).mono ?_); rintro e w' ⟨rfl, rfl⟩)
  exact bodyPost_ret (v := .agg #[.int .i64 0, .int .i64 0, .int .i64 0, .int .i64 0, .int .i64 0, .int .i64 0]) (by simp [results, Try.results15, go_sem]) rfl ⟨rfl, (by (repeat (first | with_reducible assumption | with_reducible exact Kp.refl _ | with_reducible refine Kp.drew ?_ | with_reducible refine Kp.drewN ?_ _ | with_reducible refine Kp.alloc ?_ _ | ((with_reducible refine Kp.setCell ?_ ?_ _); rotate_left; (focus (first | omega | (simp; done) | (simp; omega)))) | with_reducible refine Kp.trans ?_ (by assumption))))⟩
theorem glues_nil (x y : Int) (w : World) : Calls Try.prog 18 #[.pointer none, .int .i64 x, .int .i64 y] w fun e w' => e = .returned (.slice none 0 0) ∧ w = w' := by
  have hw := within_of (.pointer none) 0 x y (len_nil w) ⟨_, rfl⟩
  have hf : decide (max x 0 < min y 0) = false := decide_eq_false (by omega)
  rw [hf] at hw
  obtain ⟨a, ha⟩ : ∃ a, max x 0 = a := ⟨_, rfl⟩
  obtain ⟨b, hb⟩ : ∃ b, min y 0 = b := ⟨_, rfl⟩
  rw [ha, hb] at hw
  clear hf ha hb
  go_enter Try.func18, Try.ntmps18
  go_wp2_with (go_at_call 49; go_must (refine hw.mono ?_); rintro e w' ⟨rfl, rfl⟩)
  go_ret
  exact ⟨rfl, rfl⟩

/-- The piece from x to y. -/
def piece (l : List Item) (x y : Int) : List Item := (l.take y.toNat).drop x.toNat
theorem piece_none {l : List Item} {x y : Int} (h : ¬ max x 0 < min y (l.length : Nat)) : piece l x y = [] := by
  unfold piece
  apply List.drop_eq_nil_of_le
  rw [List.length_take]
  omega
theorem piece_some {l : List Item} {x y : Int} {i j : Nat} (hi : max x 0 = (i : Int)) (hj : min y (l.length : Nat) = (j : Int)) (h : i < j) : l.take j = l.take i ++ piece l x y := by
  unfold piece
  have e1 : x.toNat = i := by omega
  have e2 : l.take y.toNat = l.take j := by rw [List.take_eq_take_iff]; omega
  rw [e1, e2]
  have e3 : (l.take j).take i = l.take i := by rw [List.take_take, Nat.min_eq_left (by omega)]
  rw [← e3, List.take_append_drop]

theorem boxes_any {p : Nat} {a : Option Addr} {cap ba bb : Nat} {l : List Item} (x y : Int) {w : World} (h : SumsK w p a cap ba bb l l.length) (hf : fairL l = true) (h4 : l.length ≤ 4096) :
    Calls Try.prog 20 #[.pointer (some ⟨p, 0, none⟩), .int .i64 x, .int .i64 y] w fun e w' => e = .returned (.int .i64 (bsum (piece l x y))) ∧ Kp w w' := by
  have hw := within_of (.pointer (some ⟨p, 0, none⟩)) (l.length : Nat) x y (len_any h) ⟨_, rfl⟩
  by_cases hlt : max x 0 < min y (l.length : Nat)
  · obtain ⟨i, hi⟩ := Int.eq_ofNat_of_zero_le (show 0 ≤ max x 0 by omega)
    obtain ⟨j, hj⟩ := Int.eq_ofNat_of_zero_le (show 0 ≤ min y (l.length : Nat) by omega)
    have hij : i < j := by omega
    have hjl : j ≤ l.length := by omega
    have hp := piece_some hi hj hij
    have hb := bsum_append (l.take i) (piece l x y)
    rw [← hp] at hb
    rw [decide_eq_true hlt, hi, hj] at hw
    have z2 := h.head.cell 2 rfl
    have g0 := h.boxes.at i (by omega)
    have g1 := h.boxes.at j (by omega)
    rw [boxF_at l (show i ≤ l.length by omega)] at g0
    rw [boxF_at l hjl] at g1
    have b0 := bsum_within (l.take i) (fairL_take hf i)
    have b1 := bsum_within (l.take j) (fairL_take hf j)
    have l0 : (l.take i).length ≤ 4096 := by rw [List.length_take]; omega
    have l1 : (l.take j).length ≤ 4096 := by rw [List.length_take]; omega
    obtain ⟨m, hm⟩ : ∃ m, bsum (l.take i) = m := ⟨_, rfl⟩
    obtain ⟨n, hn⟩ : ∃ n, bsum (l.take j) = n := ⟨_, rfl⟩
    rw [hm] at b0 g0 hb
    rw [hn] at b1 g1 hb
    have hwr : IntKind.i64.wrap (n - m) = n - m := by rw [IntKind.wrap_i64]; omega
    have hr : bsum (piece l x y) = n - m := by omega
    rw [hr]
    have i1 : (i : Int) < (l.length : Int) + 1 := by omega
    have i2 : (j : Int) < (l.length : Int) + 1 := by omega
    clear hp hb b0 b1 l0 l1 hm hn hr hi hj hlt h hf
    go_enter Try.func20, Try.ntmps20
    go_wp2_with (go_at_call 49; go_must (refine hw.mono ?_); rintro e w' ⟨rfl, rfl⟩)
    go_quiet (fail)
    go_wp2
    go_ret
    exact ⟨rfl, (by (repeat (first | with_reducible assumption | with_reducible exact Kp.refl _ | with_reducible refine Kp.drew ?_ | with_reducible refine Kp.drewN ?_ _ | with_reducible refine Kp.alloc ?_ _ | ((with_reducible refine Kp.setCell ?_ ?_ _); rotate_left; (focus (first | omega | (simp; done) | (simp; omega)))) | with_reducible refine Kp.trans ?_ (by assumption))))⟩
  · rw [piece_none hlt]
    rw [decide_eq_false hlt] at hw
    obtain ⟨a, ha⟩ : ∃ a, max x 0 = a := ⟨_, rfl⟩
    obtain ⟨b, hb⟩ : ∃ b, min y (l.length : Nat) = b := ⟨_, rfl⟩
    rw [ha, hb] at hw
    clear h ha hb hlt hf h4
    go_enter Try.func20, Try.ntmps20
    go_wp2_with (go_at_call 49; go_must (refine hw.mono ?_); rintro e w' ⟨rfl, rfl⟩)
    go_ret
    exact ⟨rfl, (by (repeat (first | with_reducible assumption | with_reducible exact Kp.refl _ | with_reducible refine Kp.drew ?_ | with_reducible refine Kp.drewN ?_ _ | with_reducible refine Kp.alloc ?_ _ | ((with_reducible refine Kp.setCell ?_ ?_ _); rotate_left; (focus (first | omega | (simp; done) | (simp; omega)))) | with_reducible refine Kp.trans ?_ (by assumption))))⟩

theorem ahead_cells {w : World} {ba : Nat} {l : List Item} {k i : Nat} {s0 s1 s2 s3 s4 s5 : Int} {t : TypeId} (h : Blk w ba (intsF ((l.length + 1) * 6) (aheadF l k)) t) (hi : i ≤ k) (hl : i ≤ l.length) (hs : psum (l.take i) = ⟨s0, s1, s2, s3, s4, s5⟩) :
    w.cell? ⟨ba, i * 6, none⟩ = some (.int .i64 s0) ∧ w.cell? ⟨ba, i * 6 + 1, none⟩ = some (.int .i64 s1) ∧ w.cell? ⟨ba, i * 6 + 2, none⟩ = some (.int .i64 s2) ∧ w.cell? ⟨ba, i * 6 + 3, none⟩ = some (.int .i64 s3) ∧ w.cell? ⟨ba, i * 6 + 4, none⟩ = some (.int .i64 s4) ∧ w.cell? ⟨ba, i * 6 + 5, none⟩ = some (.int .i64 s5) := by
  have hc : ∀ c, c < 6 → w.cell? ⟨ba, i * 6 + c, none⟩ = some (.int .i64 (comp ⟨s0, s1, s2, s3, s4, s5⟩ c)) := fun c hc => by
    have e := h.at (i * 6 + c) (by omega)
    rw [aheadF_at l hi hc, hs] at e; exact e
  exact ⟨hc 0 (by decide), hc 1 (by decide), hc 2 (by decide), hc 3 (by decide), hc 4 (by decide), hc 5 (by decide)⟩

set_option maxRecDepth 100000 in
set_option maxHeartbeats 4000000 in
theorem of_any {p : Nat} {a : Option Addr} {cap ba bb : Nat} {l : List Item} (x y : Int) {w : World} (h : SumsK w p a cap ba bb l l.length) (hf : fairL l = true) (h4 : l.length ≤ 4096) :
    Calls Try.prog 15 #[.pointer (some ⟨p, 0, none⟩), .int .i64 x, .int .i64 y] w fun e w' => e = .returned (psum (piece l x y)).v ∧ Kp w w' := by
  have hw := fun (w' : World) (k : Kp w w') => within_of (.pointer (some ⟨p, 0, none⟩)) (l.length : Nat) x y (len_any (h.kp k)) ⟨_, rfl⟩
  by_cases hlt : max x 0 < min y (l.length : Nat)
  · obtain ⟨i, hi⟩ := Int.eq_ofNat_of_zero_le (show 0 ≤ max x 0 by omega)
    obtain ⟨j, hj⟩ := Int.eq_ofNat_of_zero_le (show 0 ≤ min y (l.length : Nat) by omega)
    have hij : i < j := by omega
    have hjl : j ≤ l.length := by omega
    have hp := piece_some hi hj hij
    have hb := psum_append (l.take i) (piece l x y)
    rw [← hp] at hb
    rw [decide_eq_true hlt, hi, hj] at hw
    have b0 := psum_within (l.take i) (fairL_take hf i)
    have b1 := psum_within (l.take j) (fairL_take hf j)
    have l0 : (l.take i).length ≤ 4096 := by rw [List.length_take]; omega
    have l1 : (l.take j).length ≤ 4096 := by rw [List.length_take]; omega
    obtain ⟨⟨o0, o1, o2, o3, o4, o5⟩, hs⟩ : ∃ s, psum (l.take i) = s := ⟨_, rfl⟩
    obtain ⟨⟨t0, t1, t2, t3, t4, t5⟩, ht⟩ : ∃ s, psum (l.take j) = s := ⟨_, rfl⟩
    obtain ⟨⟨u0, u1, u2, u3, u4, u5⟩, hu⟩ : ∃ s, psum (piece l x y) = s := ⟨_, rfl⟩
    rw [hs] at b0 hb
    rw [ht] at b1 hb
    rw [hu] at hb ⊢
    have hd := sub_exact b1 b0 (by omega)
    rw [hb, Tot.plus_less] at hd
    rw [← hb] at hd
    have cS := fun w => totSub_any t0 t1 t2 t3 t4 t5 o0 o1 o2 o3 o4 o5 w (within_ok b1 (by omega)) (within_ok b0 (by omega))
    rw [hd.1, hd.2] at cS
    simp only at cS
    have CS := Lib.hid cS
    have i1 : (i : Int) < (l.length : Int) + 1 := by omega
    have i2 : (j : Int) < (l.length : Int) + 1 := by omega
    have hsi : i ≤ l.length := by omega
    have HW := Lib.hid hw
    clear hp hb b0 b1 l0 l1 hi hj hlt hf hd cS hu hw
    go_enter Try.func15, Try.ntmps15
    go_wp2_with (go_at_call 49; go_must (refine (HW.out _ ((by (repeat (first | with_reducible assumption | with_reducible exact Kp.refl _ | with_reducible refine Kp.drew ?_ | with_reducible refine Kp.drewN ?_ _ | with_reducible refine Kp.alloc ?_ _ | ((with_reducible refine Kp.setCell ?_ ?_ _); rotate_left; (focus (first | omega | (simp; done) | (simp; omega)))) | with_reducible refine Kp.trans ?_ (by assumption)))) : Kp w _)).mono ?_); rintro e w' ⟨rfl, rfl⟩)
    
    refine named_world (F := fun w2 => Blk w2 w.heap.size (ints [0, 0, 0, 0, 0, 0]) 31 ∧ Kp w w2) ⟨(by (repeat (first | with_reducible assumption | ((with_reducible refine Blk.newL ?_ ?_); (focus (first | (simp; done) | omega)); rfl) | with_reducible refine Blk.drew ?_ | with_reducible refine Blk.drewN ?_ _ | with_reducible refine Blk.alloc ?_ _ | ((with_reducible refine Blk.other ?_ ?_ _); rotate_left; (focus (first | with_reducible assumption | omega | (simp; done) | (simp; omega))))))), (by (repeat (first | with_reducible assumption | with_reducible exact Kp.refl _ | with_reducible refine Kp.drew ?_ | with_reducible refine Kp.drewN ?_ _ | with_reducible refine Kp.alloc ?_ _ | ((with_reducible refine Kp.setCell ?_ ?_ _); rotate_left; (focus (first | omega | (simp; done) | (simp; omega)))) | with_reducible refine Kp.trans ?_ (by assumption))))⟩ ?_; rintro w2 ⟨x6, kw2⟩; have x6_0 := x6.cell 0 rfl; have x6_1 := x6.cell 1 rfl; have x6_2 := x6.cell 2 rfl; have x6_3 := x6.cell 3 rfl; have x6_4 := x6.cell 4 rfl; have x6_5 := x6.cell 5 rfl; have x6_ne := x6.lt; have x6_n1 := Nat.lt_add_one_of_lt x6_ne; have x6_n2 := Nat.lt_add_one_of_lt x6_n1; have x6_f0 := x6.free 0; have x6_f1 := x6.free 1; have x6_f2 := x6.free 2; have x6_f3 := x6.free 3; have x6_f4 := x6.free 4; have x6_f5 := x6.free 5
    have h2 := h.kp kw2
    have z1 := h2.head.cell 1 rfl
    obtain ⟨v0, v1, v2, v3, v4, v5⟩ := ahead_cells h2.ahead hsi hsi hs
    obtain ⟨m0, m1, m2, m3, m4, m5⟩ := ahead_cells h2.ahead hjl hjl ht
    have np := h2.head.lt
    have nb := h2.ahead.lt
    clear HW h
    go_cut [8] (fun v8 wd => ∃ q, v8 = .pointer (some ⟨q, 0, none⟩) ∧ Blk wd q [.int .i64 u0, .int .i64 u1, .int .i64 u2, .int .i64 u3, .int .i64 u4, .int .i64 u5] 31 ∧ Blk wd w.heap.size (ints [0, 0, 0, 0, 0, 0]) 31 ∧ Kp w wd)
    case first =>
     (refine wp_region_held_drew (S := (fun w' => (∀ b o, b < w2.heap.size → w'.cell? ⟨b, o, none⟩ = w2.cell? ⟨b, o, none⟩) ∧ Kp w2 w')) (by kernel_rfl) ?_ (fun hHd => ?_); (focus ((try dsimp only); (first | with_reducible assumption | with_reducible exact held_start _ | with_reducible exact held_next (by assumption) (by assumption) | with_reducible exact held_alloc (by assumption) _ | with_reducible exact held_drew (by assumption) | ((with_reducible refine held_kp ?_); (repeat (first | with_reducible assumption | with_reducible exact Kp.refl _ | with_reducible refine Kp.drew ?_ | with_reducible refine Kp.drewN ?_ _ | with_reducible refine Kp.alloc ?_ _ | ((with_reducible refine Kp.setCell ?_ ?_ _); rotate_left; (focus (first | omega | (simp; done) | (simp; omega)))) | with_reducible refine Kp.trans ?_ (by assumption))))))))
     (refine takeH (i := 0) (oi := ?o62) (v := ?v62) ?h62 (by kernel_rfl) ?q62 (Or.inl ⟨?w62, ?y62⟩) (by assumption) ?r62; (case h62 => ((simp only [g1, g3]); rfl)); (case q62 => exact fun _ _ _ h => h); (case w62 => rfl); (case y62 => (intro w' hSw; (try dsimp only at hSw); go_simp; (try with_reducible rfl))); (try simp only [Act.put, s1, s2, s3]))
     (refine takeH (i := 1) (oi := ?o63) (v := ?v63) ?h63 (by kernel_rfl) ?q63 (Or.inl ⟨?w63, ?y63⟩) (by assumption) ?r63; (case h63 => ((simp only [g1, g2, g3]); rfl)); (case q63 => exact fun _ _ _ h => h); (case w63 => rfl); (case y63 => (intro w' hSw; (try dsimp only at hSw); go_simp; (try with_reducible rfl))); (try simp only [Act.put, s1, s2, s3]))
     (refine takeH (i := 2) (oi := ?o64) (v := ?v64) ?h64 (by kernel_rfl) ?q64 (Or.inl ⟨?w64, ?y64⟩) (by assumption) ?r64; (case h64 => ((simp only [g1, g2, g3]); rfl)); (case q64 => exact fun _ _ _ h => h); (case w64 => rfl); (case y64 => (intro w' hSw; (try dsimp only at hSw); go_simp; (try with_reducible rfl))); (try simp only [Act.put, s1, s2, s3]))
     (refine takeH (i := 3) (oi := ?o65) (v := ?v65) ?h65 (by kernel_rfl) ?q65 (Or.inl ⟨?w65, ?y65⟩) (by assumption) ?r65; (case h65 => ((simp only [g1, g2, g3]); rfl)); (case q65 => exact fun _ _ _ h => h); (case w65 => rfl); (case y65 => (intro w' hSw; (try dsimp only at hSw); go_simp; (try with_reducible rfl))); (try simp only [Act.put, s1, s2, s3]))
     (refine takeH (i := 4) (oi := ?o66) (v := ?v66) ?h66 (by kernel_rfl) ?q66 (Or.inl ⟨?w66, ?y66⟩) (by assumption) ?r66; (case h66 => ((simp only [g1, g2, g3]); rfl)); (case q66 => exact fun _ _ _ h => h); (case w66 => rfl); (case y66 => (intro w' hSw; (try dsimp only at hSw); go_simp; (try with_reducible rfl))); (try simp only [Act.put, s1, s2, s3]))
     (refine takeH (i := 5) (oi := ?o67) (v := ?v67) ?h67 (by kernel_rfl) ?q67 (Or.inl ⟨?w67, ?y67⟩) (by assumption) ?r67; (case h67 => ((simp only [g1, g2, g3]); rfl)); (case q67 => exact fun _ _ _ h => h); (case w67 => rfl); (case y67 => (intro w' hSw; (try dsimp only at hSw); go_simp; (try with_reducible rfl))); (try simp only [Act.put, s1, s2, s3]))
     (refine takeH (i := 6) (oi := ?o68) (v := ?v68) ?h68 (by kernel_rfl) ?q68 (Or.inl ⟨?w68, ?y68⟩) (by assumption) ?r68; (case h68 => ((simp only [g1, g2, g3]); rfl)); (case q68 => exact fun _ _ _ h => h); (case w68 => rfl); (case y68 => (intro w' hSw; (try dsimp only at hSw); go_simp; (try with_reducible rfl))); (try simp only [Act.put, s1, s2, s3]))
     (refine takeH (i := 7) (oi := ?o69) (v := ?v69) ?h69 (by kernel_rfl) ?q69 (Or.inl ⟨?w69, ?y69⟩) (by assumption) ?r69; (case h69 => ((simp only [g1, g2, g3]); rfl)); (case q69 => exact fun _ _ _ h => h); (case w69 => rfl); (case y69 => (intro w' hSw; (try dsimp only at hSw); go_simp; (try with_reducible rfl))); (try simp only [Act.put, s1, s2, s3]))
     (refine takeH (i := 8) (oi := ?o70) (v := ?v70) ?h70 (by kernel_rfl) ?q70 (Or.inl ⟨?w70, ?y70⟩) (by assumption) ?r70; (case h70 => ((simp only [g1, g2, g3]); rfl)); (case q70 => exact fun _ _ _ h => h); (case w70 => rfl); (case y70 => (intro w' hSw; (try dsimp only at hSw); go_simp; (try with_reducible rfl))); (try simp only [Act.put, s1, s2, s3]))
     (refine takeH (i := 9) (oi := ?o71) (v := ?v71) ?h71 (by kernel_rfl) ?q71 (Or.inl ⟨?w71, ?y71⟩) (by assumption) ?r71; (case h71 => ((simp only [g1, g2, g3]); rfl)); (case q71 => exact fun _ _ _ h => h); (case w71 => rfl); (case y71 => (intro w' hSw; (try dsimp only at hSw); go_simp; (try with_reducible rfl))); (try simp only [Act.put, s1, s2, s3]))
     (refine takeH (i := 10) (oi := ?o72) (v := ?v72) ?h72 (by kernel_rfl) ?q72 (Or.inl ⟨?w72, ?y72⟩) (by assumption) ?r72; (case h72 => ((simp only [g1, g2, g3]); rfl)); (case q72 => exact fun _ _ _ h => h); (case w72 => rfl); (case y72 => (intro w' hSw; (try dsimp only at hSw); go_simp; (try with_reducible rfl))); (try simp only [Act.put, s1, s2, s3]))
     (refine takeH (i := 11) (oi := ?o73) (v := ?v73) ?h73 (by kernel_rfl) ?q73 (Or.inl ⟨?w73, ?y73⟩) (by assumption) ?r73; (case h73 => ((simp only [g1, g2, g3]); rfl)); (case q73 => exact fun _ _ _ h => h); (case w73 => rfl); (case y73 => (intro w' hSw; (try dsimp only at hSw); go_simp; (try with_reducible rfl))); (try simp only [Act.put, s1, s2, s3]))
     (refine takeH (i := 12) (oi := ?o74) (v := ?v74) ?h74 (by kernel_rfl) ?q74 (Or.inl ⟨?w74, ?y74⟩) (by assumption) ?r74; (case h74 => ((simp only [g1, g2, g3]); rfl)); (case q74 => exact fun _ _ _ h => h); (case w74 => rfl); (case y74 => (intro w' hSw; (try dsimp only at hSw); go_simp; (try with_reducible rfl))); (try simp only [Act.put, s1, s2, s3]))
     (refine takeH (i := 13) (oi := ?o75) (v := ?v75) ?h75 (by kernel_rfl) ?q75 (Or.inl ⟨?w75, ?y75⟩) (by assumption) ?r75; (case h75 => ((simp only [g1, g2, g3]); rfl)); (case q75 => exact fun _ _ _ h => h); (case w75 => rfl); (case y75 => (intro w' hSw; (try dsimp only at hSw); go_simp; (try with_reducible rfl))); (try simp only [Act.put, s1, s2, s3]))
     (refine wpAnyH_ready (rs := [14, 18]) (by kernel_rfl) (by simp) ?_; refine (AllReadyH.cons (o := ?o76) ?h76 (fun K hK => ?s76) (AllReadyH.cons (o := ?o77) ?h77 (fun K hK => ?s77) AllReadyH.nil)); (case h76 => (first | ((simp only [g1, g2, g3]); rfl) | rfl)); (case h77 => (first | ((simp only [g1, g2, g3]); rfl) | rfl)))
     (go_simp; (first | (go_at_call 50; go_must (refine (CS.out _).mono ?_); rintro e w5 ⟨rfl, kk⟩; have ksz := (hHd.2.trans kk).size; (try (have zb := Blk.kp (by first | with_reducible assumption | exact Blk.new _ _ _ | exact (Blk.new _ _ _).drew) kk; have zc0 := zb.cell 0 rfl; have zc1 := zb.cell 1 rfl; have zc2 := zb.cell 2 rfl; have zc3 := zb.cell 3 rfl; have zc4 := zb.cell 4 rfl; have zc5 := zb.cell 5 rfl; have zf0 := zb.free 0; have zf1 := zb.free 1; have zf2 := zb.free 2; have zf3 := zb.free 3; have zf4 := zb.free 4; have zf5 := zb.free 5)))); (try dsimp only); refine hK.out _ _ ?_ (fun hHd => ?_); (focus ((try dsimp only); (first | with_reducible assumption | with_reducible exact held_next (by assumption) (by assumption) | with_reducible exact held_alloc (by assumption) _))); clear hK K; (try simp only [Act.put, s1, s2, s3]))
     (refine takeH (i := 15) (oi := ?o78) (v := ?v78) ?h78 (by kernel_rfl) ?q78 (Or.inl ⟨?w78, ?y78⟩) (by assumption) ?r78; (case h78 => ((simp only [g1, g2, g3]); rfl)); (case q78 => exact fun _ _ _ h => h); (case w78 => rfl); (case y78 => (intro w' hSw; (try dsimp only at hSw); go_simp; (try with_reducible rfl))); (try simp only [Act.put, s1, s2, s3]))
     (refine takeH (i := 16) (oi := ?o79) (v := ?v79) ?h79 (by kernel_rfl) ?q79 (Or.inl ⟨?w79, ?y79⟩) (by assumption) ?r79; (case h79 => ((simp only [g1, g2, g3]); rfl)); (case q79 => exact fun _ _ _ h => h); (case w79 => rfl); (case y79 => (intro w' hSw; (try dsimp only at hSw); go_simp; (try with_reducible rfl))); (try simp only [Act.put, s1, s2, s3]))
     (refine takeH (i := 17) (oi := ?o80) (v := ?v80) ?h80 (by kernel_rfl) ?q80 (Or.inl ⟨?w80, ?y80⟩) (by assumption) ?r80; (case h80 => ((simp only [g1, g2, g3]); rfl)); (case q80 => exact fun _ _ _ h => h); (case w80 => rfl); (case y80 => (intro w' hSw; (try dsimp only at hSw); go_simp; (try with_reducible rfl))); (try simp only [Act.put, s1, s2, s3]))
     (refine wpAnyH_ready (rs := [18]) (by kernel_rfl) (by simp) ?_; refine AllReadyH.cons (o := ?o81) ?h81 (fun K hK => ?s81) AllReadyH.nil; (case h81 => (first | ((simp only [g1, g2, g3]); rfl) | rfl)); go_simp; (try dsimp only); refine hK.out _ _ ?_ (fun hHd => ?_); (focus ((try dsimp only); (first | with_reducible assumption | with_reducible exact held_start _ | with_reducible exact held_next (by assumption) (by assumption) | with_reducible exact held_alloc (by assumption) _ | with_reducible exact held_drew (by assumption) | ((with_reducible refine held_kp ?_); (repeat (first | with_reducible assumption | with_reducible exact Kp.refl _ | with_reducible refine Kp.drew ?_ | with_reducible refine Kp.drewN ?_ _ | with_reducible refine Kp.alloc ?_ _ | ((with_reducible refine Kp.setCell ?_ ?_ _); rotate_left; (focus (first | omega | (simp; done) | (simp; omega)))) | with_reducible refine Kp.trans ?_ (by assumption))))))); clear hK K; (try simp only [Act.put, s1, s2, s3]))
     (refine wpAnyH_ready (rs := [19]) (by kernel_rfl) (by simp) ?_; refine AllReadyH.cons (o := ?o82) ?h82 (fun K hK => ?s82) AllReadyH.nil; (case h82 => (first | ((simp only [g1, g2, g3]); rfl) | rfl)); go_simp; (try dsimp only); refine hK.out _ _ ?_ (fun hHd => ?_); (focus ((try dsimp only); (first | with_reducible assumption | with_reducible exact held_start _ | with_reducible exact held_next (by assumption) (by assumption) | with_reducible exact held_alloc (by assumption) _ | with_reducible exact held_drew (by assumption) | ((with_reducible refine held_kp ?_); (repeat (first | with_reducible assumption | with_reducible exact Kp.refl _ | with_reducible refine Kp.drew ?_ | with_reducible refine Kp.drewN ?_ _ | with_reducible refine Kp.alloc ?_ _ | ((with_reducible refine Kp.setCell ?_ ?_ _); rotate_left; (focus (first | omega | (simp; done) | (simp; omega)))) | with_reducible refine Kp.trans ?_ (by assumption))))))); clear hK K; (try simp only [Act.put, s1, s2, s3]))
     (refine takeH (i := 20) (oi := ?o83) (v := ?v83) ?h83 (by kernel_rfl) ?q83 (Or.inl ⟨?w83, ?y83⟩) (by assumption) ?r83; (case h83 => ((simp only [g1, g2, g3]); rfl)); (case q83 => exact fun _ _ _ h => h); (case w83 => rfl); (case y83 => (intro w' hSw; (try dsimp only at hSw); go_simp; (try with_reducible rfl))); (try simp only [Act.put, s1, s2, s3]))
     refine wpAnyH_done (by kernel_rfl) ?_ _
     rotate_left
     (go_simp; (try dsimp only); refine hK.out _ _ ?_ (fun hHd => ?_); (focus ((try dsimp only); (first | with_reducible assumption | with_reducible exact held_start _ | with_reducible exact held_next (by assumption) (by assumption) | with_reducible exact held_alloc (by assumption) _ | with_reducible exact held_drew (by assumption) | ((with_reducible refine held_kp ?_); (repeat (first | with_reducible assumption | with_reducible exact Kp.refl _ | with_reducible refine Kp.drew ?_ | with_reducible refine Kp.drewN ?_ _ | with_reducible refine Kp.alloc ?_ _ | ((with_reducible refine Kp.setCell ?_ ?_ _); rotate_left; (focus (first | omega | (simp; done) | (simp; omega)))) | with_reducible refine Kp.trans ?_ (by assumption))))))); clear hK K; (try simp only [Act.put, s1, s2, s3]))
     (refine wpAnyH_ready (rs := [14]) (by kernel_rfl) (by simp) ?_; refine AllReadyH.cons (o := ?o84) ?h84 (fun K hK => ?s84) AllReadyH.nil; (case h84 => (first | ((simp only [g1, g2, g3]); rfl) | rfl)); go_simp; (first | (go_at_call 50; go_must (refine (CS.out _).mono ?_); rintro e w5 ⟨rfl, kk⟩; have ksz := (hHd.2.trans kk).size; (try (have zb := Blk.kp (by first | with_reducible assumption | exact Blk.new _ _ _ | exact (Blk.new _ _ _).drew) kk; have zc0 := zb.cell 0 rfl; have zc1 := zb.cell 1 rfl; have zc2 := zb.cell 2 rfl; have zc3 := zb.cell 3 rfl; have zc4 := zb.cell 4 rfl; have zc5 := zb.cell 5 rfl; have zf0 := zb.free 0; have zf1 := zb.free 1; have zf2 := zb.free 2; have zf3 := zb.free 3; have zf4 := zb.free 4; have zf5 := zb.free 5)))); (try dsimp only); refine hK.out _ _ ?_ (fun hHd => ?_); (focus ((try dsimp only); (first | with_reducible assumption | with_reducible exact held_next (by assumption) (by assumption) | with_reducible exact held_alloc (by assumption) _))); clear hK K; (try simp only [Act.put, s1, s2, s3]))
     (refine takeH (i := 15) (oi := ?o85) (v := ?v85) ?h85 (by kernel_rfl) ?q85 (Or.inl ⟨?w85, ?y85⟩) (by assumption) ?r85; (case h85 => ((simp only [g1, g2, g3]); rfl)); (case q85 => exact fun _ _ _ h => h); (case w85 => rfl); (case y85 => (intro w' hSw; (try dsimp only at hSw); go_simp; (try with_reducible rfl))); (try simp only [Act.put, s1, s2, s3]))
     (refine takeH (i := 16) (oi := ?o86) (v := ?v86) ?h86 (by kernel_rfl) ?q86 (Or.inl ⟨?w86, ?y86⟩) (by assumption) ?r86; (case h86 => ((simp only [g1, g2, g3]); rfl)); (case q86 => exact fun _ _ _ h => h); (case w86 => rfl); (case y86 => (intro w' hSw; (try dsimp only at hSw); go_simp; (try with_reducible rfl))); (try simp only [Act.put, s1, s2, s3]))
     (refine takeH (i := 17) (oi := ?o87) (v := ?v87) ?h87 (by kernel_rfl) ?q87 (Or.inl ⟨?w87, ?y87⟩) (by assumption) ?r87; (case h87 => ((simp only [g1, g2, g3]); rfl)); (case q87 => exact fun _ _ _ h => h); (case w87 => rfl); (case y87 => (intro w' hSw; (try dsimp only at hSw); go_simp; (try with_reducible rfl))); (try simp only [Act.put, s1, s2, s3]))
     (refine wpAnyH_ready (rs := [19]) (by kernel_rfl) (by simp) ?_; refine AllReadyH.cons (o := ?o88) ?h88 (fun K hK => ?s88) AllReadyH.nil; (case h88 => (first | ((simp only [g1, g2, g3]); rfl) | rfl)); go_simp; (try dsimp only); refine hK.out _ _ ?_ (fun hHd => ?_); (focus ((try dsimp only); (first | with_reducible assumption | with_reducible exact held_start _ | with_reducible exact held_next (by assumption) (by assumption) | with_reducible exact held_alloc (by assumption) _ | with_reducible exact held_drew (by assumption) | ((with_reducible refine held_kp ?_); (repeat (first | with_reducible assumption | with_reducible exact Kp.refl _ | with_reducible refine Kp.drew ?_ | with_reducible refine Kp.drewN ?_ _ | with_reducible refine Kp.alloc ?_ _ | ((with_reducible refine Kp.setCell ?_ ?_ _); rotate_left; (focus (first | omega | (simp; done) | (simp; omega)))) | with_reducible refine Kp.trans ?_ (by assumption))))))); clear hK K; (try simp only [Act.put, s1, s2, s3]))
     (refine takeH (i := 20) (oi := ?o89) (v := ?v89) ?h89 (by kernel_rfl) ?q89 (Or.inl ⟨?w89, ?y89⟩) (by assumption) ?r89; (case h89 => ((simp only [g1, g2, g3]); rfl)); (case q89 => exact fun _ _ _ h => h); (case w89 => rfl); (case y89 => (intro w' hSw; (try dsimp only at hSw); go_simp; (try with_reducible rfl))); (try simp only [Act.put, s1, s2, s3]))
     refine wpAnyH_done (by kernel_rfl) ?_ _
     rotate_left
     all_goals
      have k5 : Kp w2 w5 := ((by (repeat (first | with_reducible assumption | with_reducible exact Kp.refl _ | with_reducible refine Kp.drew ?_ | with_reducible refine Kp.drewN ?_ _ | with_reducible refine Kp.alloc ?_ _ | ((with_reducible refine Kp.setCell ?_ ?_ _); rotate_left; (focus (first | omega | (simp; done) | (simp; omega)))) | with_reducible refine Kp.trans ?_ (by assumption)))) : Kp w2 _).trans kk
      have y6 := x6.kp k5
      have yk := kw2.trans k5
      go_wp2
      go_meet
      case rel =>
        refine ⟨_, rfl, ?_, (by (repeat (first | with_reducible assumption | ((with_reducible refine Blk.newL ?_ ?_); (focus (first | (simp; done) | omega)); rfl) | with_reducible refine Blk.drew ?_ | with_reducible refine Blk.drewN ?_ _ | with_reducible refine Blk.alloc ?_ _ | ((with_reducible refine Blk.other ?_ ?_ _); rotate_left; (focus (first | with_reducible assumption | omega | (simp; done) | (simp; omega))))))), (by (repeat (first | with_reducible assumption | with_reducible exact Kp.refl _ | with_reducible refine Kp.drew ?_ | with_reducible refine Kp.drewN ?_ _ | with_reducible refine Kp.alloc ?_ _ | ((with_reducible refine Kp.setCell ?_ ?_ _); rotate_left; (focus (first | omega | (simp; done) | (simp; omega)))) | with_reducible refine Kp.trans ?_ (by assumption))))⟩
        first
          | ((with_reducible refine Blk.newL ?_ ?_); (focus (simp; done)); rfl)
          | exact (((((zb.set 0 (.int .i64 u0)).set 1 (.int .i64 u1)).set 2 (.int .i64 u2)).set 3 (.int .i64 u3)).set 4 (.int .i64 u4)).set 5 (.int .i64 u5)
    case rest =>
      obtain ⟨q, rfl, yq, y6, yk⟩ := hcut
      have r0 := yq.cell 0 rfl; have r1 := yq.cell 1 rfl; have r2 := yq.cell 2 rfl; have r3 := yq.cell 3 rfl; have r4 := yq.cell 4 rfl; have r5 := yq.cell 5 rfl
      have e0 := y6.cell 0 rfl; have e1 := y6.cell 1 rfl; have e2 := y6.cell 2 rfl; have e3 := y6.cell 3 rfl; have e4 := y6.cell 4 rfl; have e5 := y6.cell 5 rfl
      have f0 := y6.free 0; have f1 := y6.free 1; have f2 := y6.free 2; have f3 := y6.free 3; have f4 := y6.free 4; have f5 := y6.free 5
      go_wp2
      refine ret_blk (vs := [.int .i64 u0, .int .i64 u1, .int .i64 u2, .int .i64 u3, .int .i64 u4, .int .i64 u5]) (Blk.set (Blk.set (Blk.set (Blk.set (Blk.set (Blk.set y6 0 _) 1 _) 2 _) 3 _) 4 _) 5 _) ?_ rfl ⟨rfl, (by (repeat (first | with_reducible assumption | with_reducible exact Kp.refl _ | with_reducible refine Kp.drew ?_ | with_reducible refine Kp.drewN ?_ _ | with_reducible refine Kp.alloc ?_ _ | ((with_reducible refine Kp.setCell ?_ ?_ _); rotate_left; (focus (first | omega | (simp; done) | (simp; omega)))) | with_reducible refine Kp.trans ?_ (by assumption))))⟩; intro wz bz; have z0 := bz.cell 0 rfl; have z1 := bz.cell 1 rfl; have z2 := bz.cell 2 rfl; have z3 := bz.cell 3 rfl; have z4 := bz.cell 4 rfl; have z5 := bz.cell 5 rfl; simp [results, Try.results15, go_sem, z0, z1, z2, z3, z4, z5]
  · rw [piece_none hlt]
    rw [decide_eq_false hlt] at hw
    obtain ⟨a, ha⟩ : ∃ a, max x 0 = a := ⟨_, rfl⟩
    obtain ⟨b, hb⟩ : ∃ b, min y (l.length : Nat) = b := ⟨_, rfl⟩
    rw [ha, hb] at hw
    clear h ha hb hlt hf h4
    go_enter Try.func15, Try.ntmps15
    go_wp2_with (go_at_call 49; go_must (refine (hw _ ((by (repeat (first | with_reducible assumption | with_reducible exact Kp.refl _ | with_reducible refine Kp.drew ?_ | with_reducible refine Kp.drewN ?_ _ | with_reducible refine Kp.alloc ?_ _ | ((with_reducible refine Kp.setCell ?_ ?_ _); rotate_left; (focus (first | omega | (simp; done) | (simp; omega)))) | with_reducible refine Kp.trans ?_ (by assumption)))) : Kp w _)).mono ?_); rintro e w' ⟨rfl, rfl⟩)
    exact bodyPost_ret (v := .agg #[.int .i64 0, .int .i64 0, .int .i64 0, .int .i64 0, .int .i64 0, .int .i64 0]) (by simp [results, Try.results15, go_sem]) rfl ⟨rfl, (by (repeat (first | with_reducible assumption | with_reducible exact Kp.refl _ | with_reducible refine Kp.drew ?_ | with_reducible refine Kp.drewN ?_ _ | with_reducible refine Kp.alloc ?_ _ | ((with_reducible refine Kp.setCell ?_ ?_ _); rotate_left; (focus (first | omega | (simp; done) | (simp; omega)))) | with_reducible refine Kp.trans ?_ (by assumption))))⟩
end Go.Proofs.Yteipfamaclildaa
