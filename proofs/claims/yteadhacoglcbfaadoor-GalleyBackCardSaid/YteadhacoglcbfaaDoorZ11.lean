/- Part 11 of the proof: A galley's lines that cannot stand where they are. A galley's lines, plain: when a line can stand, and the document's way to say so. A galley: the texts that are always read, line by line. A galley's pages while they are read: a line, in the world. A galley's Read, of any text. append(an empty literal, as many zeros ...). Pages that are more than are gone through: the walk. -/
import Derived.Test.YteadhacoglcbfaaDoorZ10
import Derived.Lib.AppendZeros
namespace Go.Proofs.YteadhacoglcbfaaDoor

open Go.ChangeShapes Go.WideShapes Go.ChangeAt Go.RowKit Go.Shelf

set_option maxRecDepth 100000 in
set_option maxHeartbeats 4000000 in
theorem take_none (s : List UInt8) (va : Option Addr) (vn vc : Nat) (hp : parseP s = none) (hs : s.length ≤ 10000) (w : World) (he : Env w) :
    Calls Tryd.prog 21 #[.slice va vn vc, sv s] w fun e w' => e = .panicked gone ∧ Kp w w' := by
  have CPA := Lib.hid (parse_any s hs w he)
  clear he
  go_enter Tryd.func21, Tryd.ntmps21
  go_wp2_with fail
  refine CPA.out.mono ?_
  rintro e w1 ⟨k1, ⟨wd', ns', na, nc, hp2, -, -, -⟩ | ⟨hp2, rfl⟩⟩
  · rw [hp] at hp2; cases hp2
  go_wp2_with fail
  exact ⟨rfl, rfl, (by (repeat (first | with_reducible assumption | with_reducible exact Kp.refl _ | with_reducible refine Kp.drew ?_ | with_reducible refine Kp.drewN ?_ _ | with_reducible refine Kp.alloc ?_ _ | ((with_reducible refine Kp.setCell ?_ ?_ _); rotate_left; (focus (first | omega | (simp; done) | (simp; omega)))) | with_reducible refine Kp.trans ?_ (by assumption))))⟩
set_option maxRecDepth 100000 in
set_option maxHeartbeats 4000000 in
theorem take_page4 (s : List UInt8) (ns : List Int) (va : Option Addr) (vn vc : Nat) (hp : parseP s = some (wPage, ns)) (h4 : ns.length ≠ 4) (hs : s.length ≤ 10000) (w : World) (he : Env w) :
    Calls Tryd.prog 21 #[.slice va vn vc, sv s] w fun e w' => e = .panicked gone ∧ Kp w w' := by
  have CPA := Lib.hid (parse_any s hs w he)
  clear he
  go_enter Tryd.func21, Tryd.ntmps21
  go_wp2_with fail
  refine CPA.out.mono ?_
  rintro e w1 ⟨k1, ⟨wd', ns', na, nc, hp2, rfl, hsl, hn⟩ | ⟨hp2, _⟩⟩
  rotate_left
  · rw [hp] at hp2; cases hp2
  rw [hp] at hp2
  simp only [Option.some.injEq, Prod.mk.injEq] at hp2
  obtain ⟨rfl, rfl⟩ := hp2
  clear hsl CPA
  go_wp2_with fail
  refine (many_no wPage na ns.length nc 4 _ h4).mono ?_
  rintro e w2 ⟨rfl, k2⟩
  go_wp2_with fail
  exact ⟨rfl, rfl, (by (repeat (first | with_reducible assumption | with_reducible exact Kp.refl _ | with_reducible refine Kp.drew ?_ | with_reducible refine Kp.drewN ?_ _ | with_reducible refine Kp.alloc ?_ _ | ((with_reducible refine Kp.setCell ?_ ?_ _); rotate_left; (focus (first | omega | (simp; done) | (simp; omega)))) | with_reducible refine Kp.trans ?_ (by assumption))))⟩
set_option maxRecDepth 100000 in
set_option maxHeartbeats 4000000 in
theorem take_pageN (s : List UInt8) (n a b c : Int) (va : Option Addr) (vn vc : Nat) (hp : parseP s = some (wPage, [n, a, b, c])) (h4 : n ≠ (vn : Int)) (hs : s.length ≤ 10000) (hv : vn ≤ 1000000) (w : World) (he : Env w) :
    Calls Tryd.prog 21 #[.slice va vn vc, sv s] w fun e w' => e = .panicked gone ∧ Kp w w' := by
  have CPA := Lib.hid (parse_any s hs w he)
  clear he
  go_enter Tryd.func21, Tryd.ntmps21
  go_wp2_with fail
  refine CPA.out.mono ?_
  rintro e w1 ⟨k1, ⟨wd', ns', na, nc, hp2, rfl, hsl, hn⟩ | ⟨hp2, _⟩⟩
  rotate_left
  · rw [hp] at hp2; cases hp2
  rw [hp] at hp2
  simp only [Option.some.injEq, Prod.mk.injEq] at hp2
  obtain ⟨rfl, rfl⟩ := hp2
  rcases hsl.2.2.2 with e | ⟨ga, oa, rfl, hga, r1⟩
  · cases e
  have hcl := hsl.2.1
  have hcm := hsl.2.2.1
  unfold maxLen at hcm
  have d0 := r1 0 _ rfl 0 _ rfl
  simp only [Nat.add_zero, Nat.mul_one] at d0
  have j1 : (n != (vn : Int)) = true := by simpa using h4
  have j2 : (n == (vn : Int)) = false := beq_eq_false_iff_ne.2 h4
  clear hsl r1 CPA
  go_wp2_with fail
  refine (many_yes wPage (some ⟨ga, oa, none⟩) 4 nc _).mono ?_
  rintro e w2 ⟨rfl, k2⟩
  have k12 : Kp w1 w2 := ((by (repeat (first | with_reducible assumption | with_reducible exact Kp.refl _ | with_reducible refine Kp.drew ?_ | with_reducible refine Kp.drewN ?_ _ | with_reducible refine Kp.alloc ?_ _ | ((with_reducible refine Kp.setCell ?_ ?_ _); rotate_left; (focus (first | omega | (simp; done) | (simp; omega)))) | with_reducible refine Kp.trans ?_ (by assumption)))) : Kp w1 _).trans k2
  have e0 := (k12.cell (p := ⟨ga, oa, none⟩) hga).trans d0
  have kw2 := k1.trans k12
  clear d0 k2
  go_wp2_with fail
  exact ⟨rfl, rfl, (by (repeat (first | with_reducible assumption | with_reducible exact Kp.refl _ | with_reducible refine Kp.drew ?_ | with_reducible refine Kp.drewN ?_ _ | with_reducible refine Kp.alloc ?_ _ | ((with_reducible refine Kp.setCell ?_ ?_ _); rotate_left; (focus (first | omega | (simp; done) | (simp; omega)))) | with_reducible refine Kp.trans ?_ (by assumption))))⟩
set_option maxRecDepth 100000 in
set_option maxHeartbeats 4000000 in
theorem take_nopage (s : List UInt8) (wd : List UInt8) (ns : List Int) (hp : parseP s = some (wd, ns)) (hw1 : wd ≠ wPage) (hs : s.length ≤ 10000) (w : World) (he : Env w) :
    Calls Tryd.prog 21 #[.slice none 0 0, sv s] w fun e w' => e = .panicked gone ∧ Kp w w' := by
  have CPA := Lib.hid (parse_any s hs w he)
  have n1 : (wd == [112, 97, 103, 101]) = false := beq_eq_false_iff_ne.2 hw1
  clear he hw1
  go_enter Tryd.func21, Tryd.ntmps21
  go_wp2_with fail
  refine CPA.out.mono ?_
  rintro e w1 ⟨k1, ⟨wd', ns', na, nc, hp2, rfl, hsl, hn⟩ | ⟨hp2, _⟩⟩
  rotate_left
  · rw [hp] at hp2; cases hp2
  rw [hp] at hp2
  simp only [Option.some.injEq, Prod.mk.injEq] at hp2
  obtain ⟨rfl, rfl⟩ := hp2
  clear hsl CPA
  go_wp2_with fail
  exact ⟨rfl, rfl, (by (repeat (first | with_reducible assumption | with_reducible exact Kp.refl _ | with_reducible refine Kp.drew ?_ | with_reducible refine Kp.drewN ?_ _ | with_reducible refine Kp.alloc ?_ _ | ((with_reducible refine Kp.setCell ?_ ?_ _); rotate_left; (focus (first | omega | (simp; done) | (simp; omega)))) | with_reducible refine Kp.trans ?_ (by assumption))))⟩
set_option maxRecDepth 100000 in
set_option maxHeartbeats 8000000 in
theorem take_lane1 (s : List UInt8) (ns : List Int) (base : Nat) (qs : List Page) (k g vc : Nat) (la : Option Addr) (lc : Nat) (ll : List Lane) (pt pf pl : Int) (hp : parseP s = some (wLane, ns)) (h1 : ns.length ≠ 1) (hs : s.length ≤ 10000) (hk : qs.length = k) (hps : k ≤ 1000000) (w : World) (he : Env w)
    (hr : Row w base 49 4 Page.cells (.slice (some ⟨g, 0, none⟩) (k + 1) vc) (qs ++ [⟨⟨la, ll.length, lc, ll⟩, pt, pf, pl⟩])) :
    Calls Tryd.prog 21 #[.slice (some ⟨g, 0, none⟩) (k + 1) vc, sv s] w fun e w' => e = .panicked gone ∧ Kp w w' := by
  have CPA := Lib.hid (parse_any s hs w he)
  have HR := Lib.hid hr
  have hgg := (hr.lt g rfl).2
  obtain ⟨-, hvc1, hvm⟩ := hr.shape1 (by rw [List.length_append, List.length_singleton]; omega)
  unfold maxLen at hvm
  clear he hr
  go_enter Tryd.func21, Tryd.ntmps21
  go_wp2_with fail
  refine CPA.out.mono ?_
  rintro e w1 ⟨k1, ⟨wd, ns', na, nc, hp2, rfl, hsl, hn⟩ | ⟨hp2, _⟩⟩
  rotate_left
  · rw [hp] at hp2; cases hp2
  rw [hp] at hp2
  simp only [Option.some.injEq, Prod.mk.injEq] at hp2
  obtain ⟨rfl, rfl⟩ := hp2
  clear hsl CPA
  have j1 : decide ((k : Int) < 0) = false := decide_eq_false (by omega)
  go_wp2_with fail
  
  refine named_world (F := fun w2 => Blk w2 w1.heap.size [sv wLane, .slice na ns.length nc] 58 ∧ Kp w1 w2) ⟨(by (repeat (first | with_reducible assumption | ((with_reducible refine Blk.newL ?_ ?_); (focus (first | (simp; done) | omega)); rfl) | with_reducible refine Blk.drew ?_ | with_reducible refine Blk.drewN ?_ _ | with_reducible refine Blk.alloc ?_ _ | ((with_reducible refine Blk.other ?_ ?_ _); rotate_left; (focus (first | with_reducible assumption | omega | (simp; done) | (simp; omega))))))), (by (repeat (first | with_reducible assumption | with_reducible exact Kp.refl _ | with_reducible refine Kp.drew ?_ | with_reducible refine Kp.drewN ?_ _ | with_reducible refine Kp.alloc ?_ _ | ((with_reducible refine Kp.setCell ?_ ?_ _); rotate_left; (focus (first | omega | (simp; done) | (simp; omega)))) | with_reducible refine Kp.trans ?_ (by assumption))))⟩ ?_; rintro w2 ⟨bx, kw2⟩; have bx_0 := bx.cell 0 rfl; have bx_1 := bx.cell 1 rfl; have bx_ne := bx.lt; have bx_n1 := Nat.lt_add_one_of_lt bx_ne; have bx_n2 := Nat.lt_add_one_of_lt bx_n1
  have kww : Kp w w2 := k1.trans kw2
  have p0 := Row.cellN (enc := Page.cells) (fun _ => rfl) (HR.out.kp kww) rfl (get_last hk) (j := 0) rfl
  simp only [Nat.add_zero] at p0
  have hgg2 := Nat.lt_of_lt_of_le hgg kww.size
  have x0 := bx.cell 0 rfl
  have x1 := bx.cell 1 rfl
  have ek : (k : Int) < (k : Int) + 1 := by omega
  (refine wp_region_held_drew (S := (fun w' => Kp w2 w' ∧ w'.cell? ⟨w1.heap.size, 0, none⟩ = some (sv wLane) ∧ w'.cell? ⟨w1.heap.size, 1, none⟩ = some (.slice na ns.length nc))) (by kernel_rfl) ?_ (fun hHd => ?_); (focus ((try dsimp only); exact ⟨(show Kp w2 _ from (by (repeat (first | with_reducible assumption | with_reducible exact Kp.refl _ | with_reducible refine Kp.drew ?_ | with_reducible refine Kp.drewN ?_ _ | with_reducible refine Kp.alloc ?_ _ | ((with_reducible refine Kp.setCell ?_ ?_ _); rotate_left; (focus (first | omega | (simp; done) | (simp; omega)))) | with_reducible refine Kp.trans ?_ (by assumption))))), x0, x1⟩)))
  (refine takeH (i := 0) (oi := ?o337) (v := ?v337) ?h337 (by kernel_rfl) ?q337 (Or.inl ⟨?w337, ?y337⟩) (by assumption) ?r337; (case h337 => ((simp only [g1, g3]); rfl)); (case q337 => exact fun _ _ _ h => h); (case w337 => rfl); (case y337 => (intro w' hSw; (try dsimp only at hSw); go_simp; (try with_reducible rfl))); (try simp only [Act.put, s1, s2, s3]))
  (refine takeH (i := 1) (oi := ?o338) (v := ?v338) ?h338 (by kernel_rfl) ?q338 (Or.inl ⟨?w338, ?y338⟩) (by assumption) ?r338; (case h338 => ((simp only [g1, g2, g3]); rfl)); (case q338 => exact fun _ _ _ h => h); (case w338 => rfl); (case y338 => (intro w' hSw; (try dsimp only at hSw); go_simp; (try with_reducible rfl))); (try simp only [Act.put, s1, s2, s3]))
  (refine takeH (i := 2) (oi := ?o339) (v := ?v339) ?h339 (by kernel_rfl) ?q339 (Or.inl ⟨?w339, ?y339⟩) (by assumption) ?r339; (case h339 => ((simp only [g1, g2, g3]); rfl)); (case q339 => exact fun _ _ _ h => h); (case w339 => rfl); (case y339 => (intro w' hSw; (try dsimp only at hSw); go_simp; (try with_reducible rfl))); (try simp only [Act.put, s1, s2, s3]))
  (refine takeH (i := 3) (oi := ?o340) (v := ?v340) ?h340 (by kernel_rfl) ?q340 (Or.inl ⟨?w340, ?y340⟩) (by assumption) ?r340; (case h340 => ((simp only [g1, g2, g3]); rfl)); (case q340 => exact fun _ _ _ h => h); (case w340 => rfl); (case y340 => (intro w' hSw; (try dsimp only at hSw); go_simp; (try with_reducible rfl))); (try simp only [Act.put, s1, s2, s3]))
  (refine takeH (i := 4) (oi := ?o341) (v := ?v341) ?h341 (by kernel_rfl) ?q341 (Or.inl ⟨?w341, ?y341⟩) (by assumption) ?r341; (case h341 => ((simp only [g1, g2, g3]); rfl)); (case q341 => exact fun _ _ _ h => h); (case w341 => rfl); (case y341 => (intro w' hSw; (try dsimp only at hSw); go_simp; (try with_reducible rfl))); (try simp only [Act.put, s1, s2, s3]))
  (refine takeH (i := 5) (oi := ?o342) (v := ?v342) ?h342 (by kernel_rfl) ?q342 (Or.inl ⟨?w342, ?y342⟩) (by assumption) ?r342; (case h342 => ((simp only [g1, g2, g3]); rfl)); (case q342 => exact fun _ _ _ h => h); (case w342 => rfl); (case y342 => (intro w' hSw; (try dsimp only at hSw); go_simp; (try with_reducible rfl))); (try simp only [Act.put, s1, s2, s3]))
  (refine takeH (i := 7) (oi := ?o343) (v := ?v343) ?h343 (by kernel_rfl) ?q343 (Or.inl ⟨?w343, ?y343⟩) (by assumption) ?r343; (case h343 => ((simp only [g1, g2, g3]); rfl)); (case q343 => exact fun _ _ _ h => h); (case w343 => rfl); (case y343 => (intro w' hSw; (try dsimp only at hSw); go_simp; (try with_reducible rfl))); (try simp only [Act.put, s1, s2, s3]))
  (refine wpAnyH_ready (rs := [6, 8]) (by kernel_rfl) (by simp) ?_; refine (AllReadyH.cons (o := ?o344) ?h344 (fun K hK => ?s344) (AllReadyH.cons (o := ?o345) ?h345 (fun K hK => ?s345) AllReadyH.nil)); (case h344 => (first | ((simp only [g1, g2, g3]); rfl) | rfl)); (case h345 => (first | ((simp only [g1, g2, g3]); rfl) | rfl)))
  (go_simp; (try dsimp only); refine hK.out _ _ ?_ (fun hHd => ?_); (focus ((try dsimp only); exact hHd)); clear hK K; (try simp only [Act.put, s1, s2, s3]))
  (refine wpAnyH_ready (rs := [8]) (by kernel_rfl) (by simp) ?_; refine AllReadyH.cons (o := ?o346) ?h346 (fun K hK => ?s346) AllReadyH.nil; (case h346 => (first | ((simp only [g1, g2, g3]); rfl) | rfl)); (go_simp; go_at_call 41; refine (many_no wLane na ns.length nc 1 _ h1).mono ?_; rintro e w3 ⟨rfl, kk⟩; (try dsimp only); go_wp2_with fail; exact ⟨rfl, rfl, (by (repeat (first | with_reducible assumption | with_reducible exact Kp.refl _ | with_reducible refine Kp.drew ?_ | with_reducible refine Kp.drewN ?_ _ | with_reducible refine Kp.alloc ?_ _ | ((with_reducible refine Kp.setCell ?_ ?_ _); rotate_left; (focus (first | omega | (simp; done) | (simp; omega)))) | with_reducible refine Kp.trans ?_ (by assumption))))⟩))
  ((go_simp; go_at_call 41; refine (many_no wLane na ns.length nc 1 _ h1).mono ?_; rintro e w3 ⟨rfl, kk⟩; (try dsimp only); go_wp2_with fail; exact ⟨rfl, rfl, (by (repeat (first | with_reducible assumption | with_reducible exact Kp.refl _ | with_reducible refine Kp.drew ?_ | with_reducible refine Kp.drewN ?_ _ | with_reducible refine Kp.alloc ?_ _ | ((with_reducible refine Kp.setCell ?_ ?_ _); rotate_left; (focus (first | omega | (simp; done) | (simp; omega)))) | with_reducible refine Kp.trans ?_ (by assumption))))⟩))
set_option maxRecDepth 100000 in
set_option maxHeartbeats 8000000 in
theorem take_noput (s : List UInt8) (wd : List UInt8) (ns : List Int) (base : Nat) (qs : List Page) (k g vc : Nat) (h lc : Nat) (ks : List Lane) (m : Nat) (pt pf pl : Int) (yx : Int) (ya : Option Addr) (yc yn : Nat) (yl : List Put)
    (hp : parseP s = some (wd, ns)) (ho : putOf wd ns = none) (hw1 : wd ≠ wPage) (hw2 : wd ≠ wLane) (hs : s.length ≤ 10000) (hk : qs.length = k) (hm : ks.length = m) (w : World) (he : Env w)
    (hr : Row w base 49 4 Page.cells (.slice (some ⟨g, 0, none⟩) (k + 1) vc) (qs ++ [⟨⟨some ⟨h, 0, none⟩, m + 1, lc, ks ++ [⟨yx, ⟨ya, yn, yc, yl⟩⟩]⟩, pt, pf, pl⟩]))
    (hl : Row w base 46 2 Lane.cells (.slice (some ⟨h, 0, none⟩) (m + 1) lc) (ks ++ [⟨yx, ⟨ya, yn, yc, yl⟩⟩])) :
    Calls Tryd.prog 21 #[.slice (some ⟨g, 0, none⟩) (k + 1) vc, sv s] w fun e w' => e = .panicked gone ∧ Kp w w' := by
  have CPA := Lib.hid (parse_any s hs w he)
  have hgg := (hr.lt g rfl).2
  have hhh := (hl.lt h rfl).2
  obtain ⟨-, hvc1, hvm⟩ := hr.shape1 (by rw [List.length_append, List.length_singleton]; omega)
  obtain ⟨-, hlc1, hlm⟩ := hl.shape1 (by rw [List.length_append, List.length_singleton]; omega)
  unfold maxLen at hvm hlm
  have P0 := Row.cellN (enc := Page.cells) (fun _ => rfl) hr rfl (get_last hk) (j := 0) rfl
  have L1 := Row.cellN (enc := Lane.cells) (fun _ => rfl) hl rfl (get_last hm) (j := 1) rfl
  simp only [Nat.add_zero] at P0
  replace L1 : w.cell? ⟨h, m * 2 + 1, none⟩ = some (.slice ya yn yc) := L1
  have n1 : (wd == [112, 97, 103, 101]) = false := beq_eq_false_iff_ne.2 hw1
  have n2 : (wd == [108, 97, 110, 101]) = false := beq_eq_false_iff_ne.2 hw2
  clear he hr hl hw1 hw2
  go_enter Tryd.func21, Tryd.ntmps21
  go_wp2_with fail
  refine CPA.out.mono ?_
  rintro e w1 ⟨k1, ⟨wd', ns', na, nc, hp2, rfl, hsl, hn⟩ | ⟨hp2, _⟩⟩
  rotate_left
  · rw [hp] at hp2; cases hp2
  rw [hp] at hp2
  simp only [Option.some.injEq, Prod.mk.injEq] at hp2
  obtain ⟨rfl, rfl⟩ := hp2
  have HSL := Lib.hid hsl
  have hX0 := k1.size
  have p1 := (k1.cell (p := ⟨g, k * 4, none⟩) hgg).trans P0
  have l1 := (k1.cell (p := ⟨h, m * 2 + 1, none⟩) hhh).trans L1
  have hgg1 := Nat.lt_of_lt_of_le hgg k1.size
  have hhh1 := Nat.lt_of_lt_of_le hhh k1.size
  clear hsl CPA P0 L1
  have j1 : decide ((k : Int) < 0) = false := decide_eq_false (by omega)
  have ek : (k : Int) < (k : Int) + 1 := by omega
  have em : (m : Int) < (m : Int) + 1 := by omega
  have j2 : decide ((m : Int) + 1 = 0) = false := decide_eq_false (by omega)
  have j3 : (((m : Int) + 1) == 0) = false := beq_eq_false_iff_ne.2 (by omega)
  go_wp2_with fail
  
  refine named_world (F := fun w2 => Blk w2 w1.heap.size [sv wd, .slice na ns.length nc] 58 ∧ Kp w1 w2) ⟨(by (repeat (first | with_reducible assumption | ((with_reducible refine Blk.newL ?_ ?_); (focus (first | (simp; done) | omega)); rfl) | with_reducible refine Blk.drew ?_ | with_reducible refine Blk.drewN ?_ _ | with_reducible refine Blk.alloc ?_ _ | ((with_reducible refine Blk.other ?_ ?_ _); rotate_left; (focus (first | with_reducible assumption | omega | (simp; done) | (simp; omega))))))), (by (repeat (first | with_reducible assumption | with_reducible exact Kp.refl _ | with_reducible refine Kp.drew ?_ | with_reducible refine Kp.drewN ?_ _ | with_reducible refine Kp.alloc ?_ _ | ((with_reducible refine Kp.setCell ?_ ?_ _); rotate_left; (focus (first | omega | (simp; done) | (simp; omega)))) | with_reducible refine Kp.trans ?_ (by assumption))))⟩ ?_; rintro w2 ⟨bx, kw2⟩; have bx_0 := bx.cell 0 rfl; have bx_1 := bx.cell 1 rfl; have bx_ne := bx.lt; have bx_n1 := Nat.lt_add_one_of_lt bx_ne; have bx_n2 := Nat.lt_add_one_of_lt bx_n1
  have kww : Kp w w2 := k1.trans kw2
  have hhh2 := Nat.lt_of_lt_of_le hhh kww.size
  have l2 := (kw2.cell (p := ⟨h, m * 2 + 1, none⟩) hhh1).trans l1
  have x0 := bx.cell 0 rfl
  have x1 := bx.cell 1 rfl
  (refine wp_region_held_drew (S := (fun w' => Kp w2 w' ∧ w'.cell? ⟨w1.heap.size, 0, none⟩ = some (sv wd) ∧ w'.cell? ⟨w1.heap.size, 1, none⟩ = some (.slice na ns.length nc))) (by kernel_rfl) ?_ (fun hHd => ?_); (focus ((try dsimp only); exact ⟨(show Kp w2 _ from (by (repeat (first | with_reducible assumption | with_reducible exact Kp.refl _ | with_reducible refine Kp.drew ?_ | with_reducible refine Kp.drewN ?_ _ | with_reducible refine Kp.alloc ?_ _ | ((with_reducible refine Kp.setCell ?_ ?_ _); rotate_left; (focus (first | omega | (simp; done) | (simp; omega)))) | with_reducible refine Kp.trans ?_ (by assumption))))), x0, x1⟩)))
  (refine takeH (i := 0) (oi := ?o349) (v := ?v349) ?h349 (by kernel_rfl) ?q349 (Or.inl ⟨?w349, ?y349⟩) (by assumption) ?r349; (case h349 => ((simp only [g1, g3]); rfl)); (case q349 => exact fun _ _ _ h => h); (case w349 => rfl); (case y349 => (intro w' hSw; (try dsimp only at hSw); go_simp; (try with_reducible rfl))); (try simp only [Act.put, s1, s2, s3]))
  (refine takeH (i := 1) (oi := ?o350) (v := ?v350) ?h350 (by kernel_rfl) ?q350 (Or.inl ⟨?w350, ?y350⟩) (by assumption) ?r350; (case h350 => ((simp only [g1, g2, g3]); rfl)); (case q350 => exact fun _ _ _ h => h); (case w350 => rfl); (case y350 => (intro w' hSw; (try dsimp only at hSw); go_simp; (try with_reducible rfl))); (try simp only [Act.put, s1, s2, s3]))
  (refine takeH (i := 2) (oi := ?o351) (v := ?v351) ?h351 (by kernel_rfl) ?q351 (Or.inl ⟨?w351, ?y351⟩) (by assumption) ?r351; (case h351 => ((simp only [g1, g2, g3]); rfl)); (case q351 => exact fun _ _ _ h => h); (case w351 => rfl); (case y351 => (intro w' hSw; (try dsimp only at hSw); go_simp; (try with_reducible rfl))); (try simp only [Act.put, s1, s2, s3]))
  (refine takeH (i := 3) (oi := ?o352) (v := ?v352) ?h352 (by kernel_rfl) ?q352 (Or.inl ⟨?w352, ?y352⟩) (by assumption) ?r352; (case h352 => ((simp only [g1, g2, g3]); rfl)); (case q352 => exact fun _ _ _ h => h); (case w352 => rfl); (case y352 => (intro w' hSw; (try dsimp only at hSw); go_simp; (try with_reducible rfl))); (try simp only [Act.put, s1, s2, s3]))
  (refine takeH (i := 5) (oi := ?o353) (v := ?v353) ?h353 (by kernel_rfl) ?q353 (Or.inl ⟨?w353, ?y353⟩) (by assumption) ?r353; (case h353 => ((simp only [g1, g2, g3]); rfl)); (case q353 => exact fun _ _ _ h => h); (case w353 => rfl); (case y353 => (intro w' hSw; (try dsimp only at hSw); go_simp; (try with_reducible rfl))); (try simp only [Act.put, s1, s2, s3]))
  (refine wpAnyH_ready (rs := [4, 6]) (by kernel_rfl) (by simp) ?_; refine (AllReadyH.cons (o := ?o354) ?h354 (fun K hK => ?s354) (AllReadyH.cons (o := ?o355) ?h355 (fun K hK => ?s355) AllReadyH.nil)); (case h354 => (first | ((simp only [g1, g2, g3]); rfl) | rfl)); (case h355 => (first | ((simp only [g1, g2, g3]); rfl) | rfl)))
  (go_simp; (try dsimp only); refine hK.out _ _ ?_ (fun hHd => ?_); (focus ((try dsimp only); exact hHd)); clear hK K; (try simp only [Act.put, s1, s2, s3]))
  (refine wpAnyH_ready (rs := [6]) (by kernel_rfl) (by simp) ?_; refine AllReadyH.cons (o := ?o356) ?h356 (fun K hK => ?s356) AllReadyH.nil; (case h356 => (first | ((simp only [g1, g2, g3]); rfl) | rfl)); (go_simp; go_at_call 26; refine (putc_any wd ns na nc _ (HSL.out.kp (kw2.trans (show Kp w2 _ from (by (repeat (first | with_reducible assumption | with_reducible exact Kp.refl _ | with_reducible refine Kp.drew ?_ | with_reducible refine Kp.drewN ?_ _ | with_reducible refine Kp.alloc ?_ _ | ((with_reducible refine Kp.setCell ?_ ?_ _); rotate_left; (focus (first | omega | (simp; done) | (simp; omega)))) | with_reducible refine Kp.trans ?_ (by assumption)))))))).mono ?_; rintro e w3 ⟨kk, hpe⟩; obtain rfl : e = .panicked gone := hpe.elim (fun ⟨q', h', _⟩ => by rw [ho] at h'; cases h') (fun h' => h'.2); (try dsimp only); go_wp2_with fail; exact ⟨rfl, rfl, (by (repeat (first | with_reducible assumption | with_reducible exact Kp.refl _ | with_reducible refine Kp.drew ?_ | with_reducible refine Kp.drewN ?_ _ | with_reducible refine Kp.alloc ?_ _ | ((with_reducible refine Kp.setCell ?_ ?_ _); rotate_left; (focus (first | omega | (simp; done) | (simp; omega)))) | with_reducible refine Kp.trans ?_ (by assumption))))⟩))
  ((go_simp; go_at_call 26; refine (putc_any wd ns na nc _ (HSL.out.kp (kw2.trans (show Kp w2 _ from (by (repeat (first | with_reducible assumption | with_reducible exact Kp.refl _ | with_reducible refine Kp.drew ?_ | with_reducible refine Kp.drewN ?_ _ | with_reducible refine Kp.alloc ?_ _ | ((with_reducible refine Kp.setCell ?_ ?_ _); rotate_left; (focus (first | omega | (simp; done) | (simp; omega)))) | with_reducible refine Kp.trans ?_ (by assumption)))))))).mono ?_; rintro e w3 ⟨kk, hpe⟩; obtain rfl : e = .panicked gone := hpe.elim (fun ⟨q', h', _⟩ => by rw [ho] at h'; cases h') (fun h' => h'.2); (try dsimp only); go_wp2_with fail; exact ⟨rfl, rfl, (by (repeat (first | with_reducible assumption | with_reducible exact Kp.refl _ | with_reducible refine Kp.drew ?_ | with_reducible refine Kp.drewN ?_ _ | with_reducible refine Kp.alloc ?_ _ | ((with_reducible refine Kp.setCell ?_ ?_ _); rotate_left; (focus (first | omega | (simp; done) | (simp; omega)))) | with_reducible refine Kp.trans ?_ (by assumption))))⟩))
end Go.Proofs.YteadhacoglcbfaaDoor
namespace Go.Proofs.YteadhacoglcbfaaDoor

open Go.ChangeShapes Go.WideShapes Go.ChangeAt Go.RowKit Go.Shelf

theorem last_split {α : Type} {l : List α} {x : α} (h : l.getLast? = some x) : l = l.dropLast ++ [x] := by
  obtain ⟨ys, rfl⟩ := List.getLast?_eq_some_iff.1 h
  rw [List.dropLast_concat]
theorem takeP_some {ds ds' : List PgD} {s : List UInt8} (h : takeP ds s = some ds') :
    (∃ t f l, parseP s = some (wPage, [(ds.length : Int), t, f, l]) ∧ ds' = ds ++ [⟨[], t, f, l⟩]) ∨
    (∃ es d x, ds = es ++ [d] ∧ parseP s = some (wLane, [x]) ∧ ds' = es ++ [⟨d.lanes ++ [⟨x, []⟩], d.t, d.f, d.l⟩]) ∨
    (∃ es dl e t f l wd ns q, ds = es ++ [⟨dl ++ [e], t, f, l⟩] ∧ parseP s = some (wd, ns) ∧ wd ≠ wPage ∧ wd ≠ wLane ∧ putOf wd ns = some q ∧ ds' = es ++ [⟨dl ++ [⟨e.x, e.puts ++ [q]⟩], t, f, l⟩]) := by
  unfold takeP at h
  split at h
  · cases h
  · rename_i wd ns hp
    by_cases hw : wd = wPage
    · subst hw
      rw [if_pos rfl] at h
      split at h
      · split at h
        · rename_i n t f l hn
          cases h
          exact .inl ⟨t, f, l, by rw [hp, hn], rfl⟩
        · cases h
      · cases h
    · rw [if_neg hw] at h
      split at h
      · cases h
      · rename_i d hd
        have hds := last_split hd
        by_cases hl : wd = wLane
        · subst hl
          rw [if_pos rfl] at h
          split at h
          · cases h
            exact .inr (.inl ⟨_, d, _, hds, hp, rfl⟩)
          · cases h
        · rw [if_neg hl] at h
          split at h
          · cases h
          · rename_i y hy
            split at h
            · cases h
            · rename_i q hq
              cases h
              obtain ⟨lanes, t, f, l⟩ := d
              exact .inr (.inr ⟨_, lanes.dropLast, y, t, f, l, wd, ns, q, by rw [← last_split hy]; exact hds, hp, hw, hl, hq, rfl⟩)
theorem takeP_no {ds : List PgD} {s : List UInt8} (h : takeP ds s = none) :
    parseP s = none ∨ (∃ ns, parseP s = some (wPage, ns) ∧ ns.length ≠ 4) ∨ (∃ n a b c, parseP s = some (wPage, [n, a, b, c]) ∧ n ≠ (ds.length : Int)) ∨
    (ds = [] ∧ ∃ wd ns, parseP s = some (wd, ns) ∧ wd ≠ wPage) ∨ (∃ es d ns, ds = es ++ [d] ∧ parseP s = some (wLane, ns) ∧ ns.length ≠ 1) ∨
    (∃ es t f l wd ns, ds = es ++ [⟨[], t, f, l⟩] ∧ parseP s = some (wd, ns) ∧ wd ≠ wPage ∧ wd ≠ wLane) ∨
    (∃ es dl e t f l wd ns, ds = es ++ [⟨dl ++ [e], t, f, l⟩] ∧ parseP s = some (wd, ns) ∧ wd ≠ wPage ∧ wd ≠ wLane ∧ putOf wd ns = none) := by
  unfold takeP at h
  split at h
  · rename_i hp
    exact .inl hp
  · rename_i wd ns hp
    by_cases hw : wd = wPage
    · subst hw
      rw [if_pos rfl] at h
      split at h
      · rename_i n t f l
        split at h
        · cases h
        · rename_i hn
          exact .inr (.inr (.inl ⟨n, t, f, l, hp, hn⟩))
      · rename_i hns
        refine .inr (.inl ⟨ns, hp, fun h4 => ?_⟩)
        obtain ⟨a, b, c, d, rfl⟩ : ∃ a b c d, ns = [a, b, c, d] := by
          rcases ns with _ | ⟨a, _ | ⟨b, _ | ⟨c, _ | ⟨d, _ | ⟨e, ns⟩⟩⟩⟩⟩ <;> simp at h4
          exact ⟨a, b, c, d, rfl⟩
        exact hns _ _ _ _ rfl
    · rw [if_neg hw] at h
      split at h
      · rename_i hd
        exact .inr (.inr (.inr (.inl ⟨by simpa using hd, wd, ns, hp, hw⟩)))
      · rename_i d hd
        have hds := last_split hd
        by_cases hl : wd = wLane
        · subst hl
          rw [if_pos rfl] at h
          split at h
          · cases h
          · rename_i hns
            refine .inr (.inr (.inr (.inr (.inl ⟨_, d, ns, hds, hp, fun h1 => ?_⟩))))
            obtain ⟨a, rfl⟩ : ∃ a, ns = [a] := by
              rcases ns with _ | ⟨a, _ | ⟨b, ns⟩⟩ <;> simp at h1
              exact ⟨a, rfl⟩
            exact hns _ rfl
        · rw [if_neg hl] at h
          obtain ⟨lanes, t, f, l⟩ := d
          split at h
          · rename_i hy
            have : lanes = [] := by simpa using hy
            subst this
            exact .inr (.inr (.inr (.inr (.inr (.inl ⟨_, t, f, l, wd, ns, hds, hp, hw, hl⟩)))))
          · rename_i y hy
            split at h
            · rename_i hq
              exact .inr (.inr (.inr (.inr (.inr (.inr ⟨_, lanes.dropLast, y, t, f, l, wd, ns, by rw [← last_split hy]; exact hds, hp, hw, hl, hq⟩)))))
            · cases h
/-- How much has been read. -/
def massL (l : List LnD) : Nat := l.length + (l.map fun e => e.puts.length).sum
def mass (ds : List PgD) : Nat := ds.length + (ds.map fun d => massL d.lanes).sum
theorem takeP_mass {ds ds' : List PgD} {s : List UInt8} (h : takeP ds s = some ds') : mass ds' = mass ds + 1 := by
  rcases takeP_some h with ⟨t, f, l, _, rfl⟩ | ⟨es, d, x, rfl, _, rfl⟩ | ⟨es, dl, e, t, f, l, wd, ns, q, rfl, _, _, _, _, rfl⟩
  · simp [mass, massL] <;> omega
  · simp [mass, massL] <;> omega
  · simp [mass, massL] <;> omega
theorem mass_last {es : List PgD} {d : PgD} : es.length + 1 + massL d.lanes ≤ mass (es ++ [d]) := by
  simp [mass] <;> omega
theorem massL_last {dl : List LnD} {e : LnD} : dl.length + 1 + e.puts.length ≤ massL (dl ++ [e]) := by
  simp [massL] <;> omega
theorem head_parse {s w : List UInt8} {ns : List Int} (h : parseP s = some (w, ns)) : headW s = w := by
  unfold headW; rw [(parseP_ok h).2.2]; rfl
theorem nums_parse {s w : List UInt8} {ns : List Int} (h : parseP s = some (w, ns)) : valsL s = ns := by
  unfold valsL
  obtain ⟨_, h2, h3⟩ := parseP_ok h
  rw [h3, List.tail_cons, List.map_map]
  exact (List.map_congr_left fun n hn => value_itoa (h2 n hn)).trans (List.map_id' ns)
theorem numN_parse {s w : List UInt8} {ns : List Int} (h : parseP s = some (w, ns)) {i : Nat} {n : Int} (hi : ns[i]? = some n) : numN s i = n := by
  have hl := (List.getElem?_eq_some_iff.1 hi).1
  unfold numN numsL
  rw [nums_parse h, List.getD_eq_getElem?_getD, List.getElem?_append_left hl, hi]; rfl
theorem no32_head (s : List UInt8) : (32 : UInt8) ∉ headW s := by
  have : ∀ (s : List UInt8) (w : List UInt8) (ws : List (List UInt8)), splitW s = w :: ws → (32 : UInt8) ∉ w := by
    intro s
    induction s with
    | nil => intro w ws h; unfold splitW at h; cases h; simp
    | cons c r ih =>
      intro w ws h
      unfold splitW at h
      split at h
      · cases h; simp
      · rename_i hc
        split at h
        · rename_i w' ws' e
          cases h
          intro hm
          rcases List.mem_cons.1 hm with hm | hm
          · exact hc hm.symm
          · exact ih _ _ e hm
        · rename_i e
          exact absurd e (splitW_ne r)
  obtain ⟨w, ws, e⟩ := List.exists_cons_of_ne_nil (splitW_ne s)
  unfold headW
  rw [e]
  exact this s w ws e
theorem takeP_page {ds : List PgD} {s : List UInt8} (h : headW s = wPage) (hd : ds.length ≤ 1000000) :
    takeP ds s = if lineL wPage [(ds.length : Int), numN s 1, numN s 2, numN s 3] = s then some (ds ++ [⟨[], numN s 1, numN s 2, numN s 3⟩]) else none := by
  split
  · rename_i e
    have hp : parseP s = some (wPage, [(ds.length : Int), numN s 1, numN s 2, numN s 3]) := by
      conv => lhs; rw [← e]
      refine parseP_line (by decide) fun n hn => ?_
      simp only [List.mem_cons, List.not_mem_nil, or_false] at hn
      rcases hn with rfl | rfl | rfl | rfl
      · unfold I64; omega
      · exact numN_i64 s 1
      · exact numN_i64 s 2
      · exact numN_i64 s 3
    unfold takeP
    rw [hp]
    simp
  · rename_i e
    cases ht : takeP ds s with
    | none => rfl
    | some ds' =>
      rcases takeP_some ht with ⟨t, f, l, hp, rfl⟩ | ⟨es, d, x, rfl, hp, rfl⟩ | ⟨es, dl, e, t, f, l, wd, ns, q, rfl, hp, h1, _, _, rfl⟩
      · refine absurd ?_ e
        rw [numN_parse hp (i := 1) rfl, numN_parse hp (i := 2) rfl, numN_parse hp (i := 3) rfl]
        exact (parseP_ok hp).1.symm
      · have := head_parse hp
        rw [h] at this
        exact absurd this (by decide)
      · exact absurd ((head_parse hp).symm.trans h) h1
theorem takeP_lane {es : List PgD} {d : PgD} {s : List UInt8} (h : headW s = wLane) :
    takeP (es ++ [d]) s = if lineL wLane [numN s 0] = s then some (es ++ [⟨d.lanes ++ [⟨numN s 0, []⟩], d.t, d.f, d.l⟩]) else none := by
  split
  · rename_i e
    have hp : parseP s = some (wLane, [numN s 0]) := by
      conv => lhs; rw [← e]
      refine parseP_line (by decide) fun n hn => ?_
      simp only [List.mem_cons, List.not_mem_nil, or_false] at hn
      rw [hn]
      exact numN_i64 s 0
    unfold takeP
    rw [hp]
    simp
  · rename_i e
    cases ht : takeP (es ++ [d]) s with
    | none => rfl
    | some ds' =>
      rcases takeP_some ht with ⟨t, f, l, hp, rfl⟩ | ⟨es', d', x, he, hp, rfl⟩ | ⟨es', dl, e', t, f, l, wd, ns, q, he, hp, _, h1, _, rfl⟩
      · have := head_parse hp
        rw [h] at this
        exact absurd this (by decide)
      · refine absurd ?_ e
        rw [numN_parse hp (i := 0) rfl]
        exact (parseP_ok hp).1.symm
      · exact absurd ((head_parse hp).symm.trans h) h1
theorem takeP_put {es : List PgD} {dl : List LnD} {e : LnD} {t f l : Int} {s : List UInt8} (h1 : headW s ≠ wPage) (h2 : headW s ≠ wLane) :
    takeP (es ++ [⟨dl ++ [e], t, f, l⟩]) s = match putP s with
      | some q => some (es ++ [⟨dl ++ [⟨e.x, e.puts ++ [q]⟩], t, f, l⟩])
      | none => none := by
  unfold takeP putP
  cases hp : parseP s with
  | none => rfl
  | some p =>
    obtain ⟨wd, ns⟩ := p
    have hh := head_parse hp
    rw [hh] at h1 h2
    simp only [if_neg h1, if_neg h2, List.getLast?_append, List.getLast?_singleton, Option.some_or, List.dropLast_concat]
    cases putOf wd ns <;> rfl
theorem takeP_nolane {es : List PgD} {t f l : Int} {s : List UInt8} (h1 : headW s ≠ wPage) (h2 : headW s ≠ wLane) : takeP (es ++ [⟨[], t, f, l⟩]) s = none := by
  unfold takeP
  cases hp : parseP s with
  | none => rfl
  | some p =>
    obtain ⟨wd, ns⟩ := p
    have hh := head_parse hp
    rw [hh] at h1 h2
    simp [h1, h2]
theorem takeP_nopage {s : List UInt8} (h1 : headW s ≠ wPage) : takeP [] s = none := by
  unfold takeP
  cases hp : parseP s with
  | none => rfl
  | some p =>
    obtain ⟨wd, ns⟩ := p
    have hh := head_parse hp
    rw [hh] at h1
    simp [h1]
end Go.Proofs.YteadhacoglcbfaaDoor
namespace Go.Proofs.YteadhacoglcbfaaDoor

open Go.ChangeShapes Go.WideShapes Go.ChangeAt Go.RowKit Go.Shelf

theorem digG {u : Nat} (h : u < 10) : Lib.itoa (u : Int) = [UInt8.ofNat (48 + u)] := by
  unfold Lib.itoa
  rw [if_neg (by omega), Int.toNat_natCast, Lib.decDigits, dif_pos h]
theorem digGm1 : Lib.itoa (-1) = [45, 49] := by
  unfold Lib.itoa
  rw [if_pos (by decide)]
  show 45 :: Lib.decDigits 1 = _
  rw [Lib.decDigits, dif_pos (by decide)]; rfl
theorem ig0 : Lib.itoa 0 = [48] := digG (u := 0) (by decide)
theorem ig1 : Lib.itoa 1 = [49] := digG (u := 1) (by decide)
theorem ig2 : Lib.itoa 2 = [50] := digG (u := 2) (by decide)
theorem ig3 : Lib.itoa 3 = [51] := digG (u := 3) (by decide)
theorem ig4 : Lib.itoa 4 = [52] := digG (u := 4) (by decide)
theorem ig5 : Lib.itoa 5 = [53] := digG (u := 5) (by decide)
abbrev aw1 : List UInt8 := [112, 97, 103, 101, 32, 48, 32, 45, 49, 32, 53, 32, 53]
abbrev aw2 : List UInt8 := [108, 97, 110, 101, 32, 51]
abbrev aw3 : List UInt8 := [98, 111, 120, 32, 50, 32, 48, 32, 51]
theorem awP1 : parseP aw1 = some (wPage, [0, -1, 5, 5]) := by
  have e : aw1 = lineL wPage [0, -1, 5, 5] := by simp [lineL, numL, ig0, ig5, digGm1]
  rw [e]; exact parseP_line (by decide) (by unfold I64; decide)
theorem awP2 : parseP aw2 = some (wLane, [3]) := by
  have e : aw2 = lineL wLane [3] := by simp [lineL, numL, ig3]
  rw [e]; exact parseP_line (by decide) (by unfold I64; decide)
theorem awP3 : parseP aw3 = some (wBox, [2, 0, 3]) := by
  have e : aw3 = lineL wBox [2, 0, 3] := by simp [lineL, numL, ig0, ig2, ig3]
  rw [e]; exact parseP_line (by decide) (by unfold I64; decide)
/-- What a step leaves besides the pages. -/
def Keeps (W w1 w2 : World) : Prop := Kp W w2 ∧ ∀ B b, Blk w1 B [.bool b] 4 → Blk w2 B [.bool b] 4
def StepOk (W : World) (k O : Nat) (w1 : World) (e : Ending) (w2 : World) : Prop :=
  e = .returned (.tuple #[]) ∧ (∃ v2, AwT W.heap.size (k + 1) O v2 w2) ∧ Kp W w2 ∧ ∀ B b, Blk w1 B [.bool b] 4 → Blk w2 B [.bool b] 4
theorem step_of (W : World) (k O S : Nat) (v : Value) (line : List UInt8) (w1 : World) (hA : AwT W.heap.size k O v w1) (hS : Blk w1 S [sv line] 9)
    (hT : Calls Tryd.prog 21 #[v, sv line] w1 fun e w2 => ∃ v', e = .returned v' ∧ AwS W.heap.size (k + 1) v' w2 ∧ Keeps W w1 w2 ∧ Blk w2 O [v] 23) :
    Calls Tryd.prog 20 #[.pointer (some ⟨O, 0, none⟩), .pointer (some ⟨S, 0, none⟩)] w1 (StepOk W k O w1) := by
  obtain ⟨va, vn, vc, rfl⟩ := hA.sl
  have hbO := hA.2.2.1
  refine (closure_ok va vn vc line O S w1 (fun v' w2 => AwS W.heap.size (k + 1) v' w2 ∧ Keeps W w1 w2) hA.1 hS (hT.mono fun e w2 h => ?_)).mono ?_
  · obtain ⟨v', rfl, h1, h2, h3⟩ := h
    have hA' : AwT W.heap.size (k + 1) O v' (w2.setCell ⟨O, 0, none⟩ v') := AwT.next h3 h2.1.size hbO h1
    obtain ⟨a, n, c, rfl⟩ := hA'.sl
    exact ⟨a, n, c, rfl, h3, h1, h2⟩
  · rintro e w' ⟨rfl, a, n, c, w2, ⟨h1, h2⟩, h3, rfl⟩
    exact ⟨rfl, ⟨_, AwT.next h3 h2.1.size hbO h1⟩, Kp.setCell h2.1 hbO _, fun B b hB => blk_away (h2.2 B b hB) h3 (by decide) 0 _⟩
theorem one_shape {α : Type} {w : World} {base n : Nat} {e : TypeId} {enc : α → List Value} {v : Value} {l : List α} (h : Row w base e n enc v l) (hl : l.length = 1) : ∃ g c, v = .slice (some ⟨g, 0, none⟩) 1 c ∧ base ≤ g := by
  obtain ⟨g, c, e, h1, _⟩ := h.shape (by omega)
  rw [hl] at e
  exact ⟨g, c, e, h1⟩
theorem step0 (W : World) (O S : Nat) (v : Value) (w1 : World) (he : Env W) (k1 : Kp W w1) (hA : AwT W.heap.size 0 O v w1) (hS : Blk w1 S [sv aw1] 9) :
    Calls Tryd.prog 20 #[.pointer (some ⟨O, 0, none⟩), .pointer (some ⟨S, 0, none⟩)] w1 (StepOk W 0 O w1) := by
  refine step_of W 0 O S v aw1 w1 hA hS ?_
  have hv : v = .slice none 0 0 := hA.2.2.2
  subst hv
  refine (take_page aw1 (-1) 5 5 W.heap.size [] (.slice none 0 0) awP1 (by decide) (by decide) w1 (he.kp k1) (Row.nil _ _ _ _ _) hA.2.1).mono ?_
  rintro e w2 ⟨v', rfl, hr, hg, _⟩
  obtain ⟨g, c, rfl, _⟩ := one_shape hr rfl
  exact ⟨_, rfl, ⟨g, c, rfl, hr⟩, ⟨k1.grown1 hg (fun b h => by cases h), fun B b hB => hB.grown1 hg (fun h => by cases h)⟩, hA.1.grown1 hg (fun h => by cases h)⟩
theorem step1 (W : World) (O S : Nat) (v : Value) (w1 : World) (he : Env W) (k1 : Kp W w1) (hA : AwT W.heap.size 1 O v w1) (hS : Blk w1 S [sv aw2] 9) :
    Calls Tryd.prog 20 #[.pointer (some ⟨O, 0, none⟩), .pointer (some ⟨S, 0, none⟩)] w1 (StepOk W 1 O w1) := by
  refine step_of W 1 O S v aw2 w1 hA hS ?_
  obtain ⟨g, c, rfl, hr⟩ : ∃ g c, v = .slice (some ⟨g, 0, none⟩) 1 c ∧ Row w1 W.heap.size 49 4 Page.cells v [pg none 0 0 []] := hA.2.2.2
  refine (take_lane aw2 3 W.heap.size [] 0 g c none 0 [] (-1) 5 5 awP2 (by decide) rfl (by decide) (by decide) w1 (he.kp k1) hr (Row.nil _ _ _ _ _) hA.2.1).mono ?_
  rintro e w2 ⟨a', c', rfl, hr2, hl2, ht, _⟩
  obtain ⟨h, lc, e2, _⟩ := one_shape hl2 rfl
  simp only [Value.slice.injEq] at e2
  obtain ⟨rfl, _, rfl⟩ := e2
  exact ⟨_, rfl, ⟨g, c, h, c', rfl, hr2, hl2⟩, ⟨k1.twain ht (fun b h => by cases h) (fun b h => by cases h; exact (hr.lt g rfl).1), fun B b hB => hB.twain ht (fun h => by cases h) (own_ne hr hB (by decide))⟩, hA.1.twain ht (fun h => by cases h) (own_ne hr hA.1 (by decide))⟩
theorem step2 (W : World) (O S : Nat) (v : Value) (w1 : World) (he : Env W) (k1 : Kp W w1) (hA : AwT W.heap.size 2 O v w1) (hS : Blk w1 S [sv aw3] 9) :
    Calls Tryd.prog 20 #[.pointer (some ⟨O, 0, none⟩), .pointer (some ⟨S, 0, none⟩)] w1 (StepOk W 2 O w1) := by
  refine step_of W 2 O S v aw3 w1 hA hS ?_
  obtain ⟨g, c, h, lc, rfl, hr, hl⟩ : ∃ g c h lc, v = .slice (some ⟨g, 0, none⟩) 1 c ∧ Row w1 W.heap.size 49 4 Page.cells v [pg (some ⟨h, 0, none⟩) 1 lc [ln none 0 0 []]] ∧ Row w1 W.heap.size 46 2 Lane.cells (.slice (some ⟨h, 0, none⟩) 1 lc) [ln none 0 0 []] := hA.2.2.2
  refine (take_put aw3 wBox [2, 0, 3] ⟨1, 2, 0, 0, 3⟩ W.heap.size [] 0 g c h lc [] 0 (-1) 5 5 3 none 0 [] awP3 rfl (by decide) (by decide) (by decide) rfl rfl (by decide) w1 (he.kp k1) hr hl (Row.nil _ _ _ _ _) hA.2.1).mono ?_
  rintro e w2 ⟨a', c', rfl, hl2, hy2, ht, _⟩
  obtain ⟨j, pc, e2, _⟩ := one_shape hy2 rfl
  simp only [Value.slice.injEq] at e2
  obtain ⟨rfl, _, rfl⟩ := e2
  have hgh : g ≠ h := fun e => by
    obtain ⟨c1, q1⟩ := hr.type (g := g) rfl
    obtain ⟨c2, q2⟩ := hl.type (g := h) rfl
    rw [e, q2] at q1
    cases q1
  have hr2 : Row w2 W.heap.size 49 4 Page.cells (.slice (some ⟨g, 0, none⟩) 1 c) [pg (some ⟨h, 0, none⟩) 1 lc []] := Row.stay (w := w1) hr (fun b hb => by cases hb; exact ht.block g (hr.lt g rfl).2 (fun e => by cases e) (fun e => by cases e; exact hgh rfl))
  exact ⟨_, rfl, ⟨g, c, h, lc, j, c', rfl, hr2, hl2, hy2⟩, ⟨k1.twain ht (fun b h => by cases h) (fun b h' => by cases h'; exact (hl.lt h rfl).1), fun B b hB => hB.twain ht (fun h => by cases h) (own_ne hl hB (by decide))⟩, hA.1.twain ht (fun h => by cases h) (own_ne hl hA.1 (by decide))⟩
theorem stepBad (W : World) (O S : Nat) (v : Value) (w1 : World) (he : Env W) (k1 : Kp W w1) (hA : AwT W.heap.size 1 O v w1) (hS : Blk w1 S [sv aw3] 9) :
    Calls Tryd.prog 20 #[.pointer (some ⟨O, 0, none⟩), .pointer (some ⟨S, 0, none⟩)] w1 fun e w2 => e = .panicked gone ∧ Kp W w2 ∧ ∀ B b, Blk w1 B [.bool b] 4 → Blk w2 B [.bool b] 4 := by
  obtain ⟨g, c, rfl, hr⟩ : ∃ g c, v = .slice (some ⟨g, 0, none⟩) 1 c ∧ Row w1 W.heap.size 49 4 Page.cells v [pg none 0 0 []] := hA.2.2.2
  refine (closure_bad _ _ _ aw3 O S w1 (fun w2 => Kp w1 w2) hA.1 hS (take_nolane aw3 wBox [2, 0, 3] W.heap.size [] 0 g c none 0 [] (-1) 5 5 awP3 (by decide) (by decide) (by decide) rfl w1 (he.kp k1) hr)).mono ?_
  rintro e w2 ⟨rfl, k2⟩
  exact ⟨rfl, k1.trans k2, fun B b hB => hB.kp k2⟩
end Go.Proofs.YteadhacoglcbfaaDoor
namespace Go.Proofs.YteadhacoglcbfaaDoor

open Go.ChangeShapes Go.WideShapes Go.ChangeAt Go.RowKit Go.Shelf

/-- The blocks of pages, lanes and things have not turned. -/
def Typed (w w' : World) : Prop := w.heap.size ≤ w'.heap.size ∧ ∀ (b : Nat) cs t, w.heap[b]? = some (Obj.cells cs t (0, 0)) → (t = 49 ∨ t = 46 ∨ t = 33) → w'.heap[b]? = w.heap[b]?
theorem Typed.row {α : Type} {w w' : World} (h : Typed w w') {base n : Nat} {e : TypeId} {enc : α → List Value} {v : Value} {l : List α} (hr : Row w base e n enc v l) (he : e = 49 ∨ e = 46 ∨ e = 33) : Row w' base e n enc v l :=
  hr.stay fun b hb => by
    obtain ⟨cs, hc⟩ := hr.type hb
    exact h.2 b cs e hc he
theorem Typed.same {w w' : World} (h : Typed w w') {F : List Nat} (hF : RowTy w F) : Same F w w' := fun b hb => by
  obtain ⟨_, cs, t, hc, ht⟩ := hF b hb
  exact h.2 b cs t hc (.inr ht)
theorem Rep.move {w w' : World} {base : Nat} {v : Value} {ds : List PgD} (h : Rep w base v ds) (k : Typed w w') : Rep w' base v ds := by
  rcases h with h | ⟨F, qs, p, es, d, e0, hr, hq, ⟨t1, t2, t3, tl⟩, hF⟩
  · exact .inl h
  · have hF' : RowTy w F := hF
    have hs := k.same hF'
    refine .inr ⟨F, qs, p, es, d, e0, k.row hr (.inl rfl), hq.imp fun _ _ h => h.same hs fun _ h => h, ⟨t1, t2, t3, ?_⟩, hF'.same hs k.1⟩
    rcases tl with h | ⟨ks, y, ds, e, e1, q1, q2, q3, q4, q5, q6⟩
    · exact .inl h
    · exact .inr ⟨ks, y, ds, e, e1, k.row q1 (.inr (.inl rfl)), q2.imp fun _ _ h => h.same hs fun _ h => h, q3, k.row q4 (.inr (.inr rfl)), q5, q6⟩
theorem Typed.kp {w w' : World} (k : Kp w w') : Typed w w' := ⟨k.size, fun b _ _ hc _ => k.block b (Array.getElem?_eq_some_iff.1 hc).1⟩
theorem Typed.away {w : World} {B : Nat} {cs : List Value} {t : TypeId} (hB : Blk w B cs t) (h1 : t ≠ 49) (h2 : t ≠ 46) (h3 : t ≠ 33) (o : Nat) (u : Value) : Typed w (w.setCell ⟨B, o, none⟩ u) :=
  ⟨by simp, fun b ds t' hc ht => Below.heap_setCell _ _ _ _ fun e => by
    have e' : b = B := e
    rw [e', hB.heap] at hc
    cases hc
    rcases ht with e | e | e
    · exact h1 e
    · exact h2 e
    · exact h3 e⟩
theorem Rep.sl {w : World} {base : Nat} {v : Value} {ds : List PgD} (h : Rep w base v ds) : ∃ a c, v = .slice a ds.length c := by
  obtain ⟨ps, hp, hr, _⟩ := rep_page h
  obtain ⟨a, c, rfl, _⟩ := hr.sl (fun _ => rfl)
  exact ⟨a, c, by rw [hp]⟩
theorem Rep.empty {w : World} {base : Nat} {v : Value} (h : Rep w base v []) : v = .slice none 0 0 := by
  rcases h with ⟨_, h⟩ | ⟨F, qs, p, es, d, e0, _⟩
  · exact h
  · exact absurd e0 (by simp)
theorem gal_take (W : World) (ds ds' : List PgD) (v : Value) (O : Nat) (line : List UInt8) (w1 : World) (he : Env w1) (k1 : Kp W w1) (hR : Rep w1 W.heap.size v ds) (hO : Blk w1 O [v] 23) (hl : line.length ≤ 10000) (hm : mass ds ≤ 100000) (ht : takeP ds line = some ds') :
    Calls Tryd.prog 21 #[v, sv line] w1 fun e w2 => ∃ v', e = .returned v' ∧ Rep w2 W.heap.size v' ds' ∧ Keeps W w1 w2 ∧ Blk w2 O [v] 23 := by
  rcases takeP_some ht with ⟨t, f, l, hp, rfl⟩ | ⟨es, d, x, rfl, hp, rfl⟩ | ⟨es, dl, e, t, f, l, wd, ns, q, rfl, hp, n1, n2, hq, rfl⟩
  · obtain ⟨ps, hps, hr, hnew⟩ := rep_page hR
    have hlen : ds.length ≤ 100000 := by unfold mass at hm; omega
    refine (take_page line t f l W.heap.size ps v (by rw [hps]; exact hp) hl (by omega) w1 he hr k1.size).mono ?_
    rintro e w2 ⟨v', rfl, hr', hg, _⟩
    exact ⟨v', rfl, hnew w2 v' t f l hr' hg, ⟨k1.grown1 hg (fun b h => (hr.lt b h).1), fun B b hB => hB.grown1 hg (own_ne hr hB (by decide))⟩, hO.grown1 hg (own_ne hr hO (by decide))⟩
  · obtain ⟨g, k, vc, la, lc, ll, qs, pt, pf, pl, rfl, hk, hke, hll, hr, hL, hnew⟩ := rep_lane hR
    have hma := mass_last (es := es) (d := d)
    have hmb : d.lanes.length ≤ massL d.lanes := by unfold massL; omega
    refine (take_lane line x W.heap.size qs k g vc la lc ll pt pf pl hp hl hk (by omega) (by omega) w1 he hr hL k1.size).mono ?_
    rintro e w2 ⟨a', c', rfl, hr', hl', htw, how⟩
    refine ⟨_, rfl, hnew w2 a' c' x hr' hl' htw how, ⟨k1.twain htw (fun b h => (hL.lt b h).1) (fun b h => by cases h; exact (hr.lt g rfl).1), fun B b hB => hB.twain htw (own_ne hL hB (by decide)) (own_ne hr hB (by decide))⟩, hO.twain htw (own_ne hL hO (by decide)) (own_ne hr hO (by decide))⟩
  · obtain ⟨g, k, vc, h, lc, ks, m, qs, pt, pf, pl, yx, ya, yc, rfl, hk, hkm, hr, hL, hY, hnew⟩ := rep_put hR
    have hma := mass_last (es := es) (d := ⟨dl ++ [e], t, f, l⟩)
    have hmb := massL_last (dl := dl) (e := e)
    simp only at hma
    refine (take_put line wd ns q W.heap.size qs k g vc h lc ks m pt pf pl yx ya yc e.puts hp hq n1 n2 hl hk hkm (by omega) w1 he hr hL hY k1.size).mono ?_
    rintro e2 w2 ⟨a', c', rfl, hl', hy', htw, how⟩
    refine ⟨_, rfl, hnew w2 a' c' q hl' hy' htw how, ⟨k1.twain htw (fun b h => (hY.lt b h).1) (fun b h' => by cases h'; exact (hL.lt h rfl).1), fun B b hB => hB.twain htw (own_ne hY hB (by decide)) (own_ne hL hB (by decide))⟩, hO.twain htw (own_ne hY hO (by decide)) (own_ne hL hO (by decide))⟩
theorem gal_bad (W : World) (ds : List PgD) (v : Value) (line : List UInt8) (w1 : World) (he : Env w1) (hR : Rep w1 W.heap.size v ds) (hl : line.length ≤ 10000) (hm : mass ds ≤ 100000) (ht : takeP ds line = none) :
    Calls Tryd.prog 21 #[v, sv line] w1 fun e w2 => e = .panicked gone ∧ Kp w1 w2 := by
  have hlen : ds.length ≤ 100000 := by unfold mass at hm; omega
  rcases takeP_no ht with hp | ⟨ns, hp, h4⟩ | ⟨n, a, b, c, hp, hn⟩ | ⟨rfl, wd, ns, hp, n1⟩ | ⟨es, d, ns, rfl, hp, h1⟩ | ⟨es, t, f, l, wd, ns, rfl, hp, n1, n2⟩ | ⟨es, dl, e, t, f, l, wd, ns, rfl, hp, n1, n2, hq⟩
  · obtain ⟨a, c, rfl⟩ := hR.sl
    exact take_none line a _ c hp hl w1 he
  · obtain ⟨a, c, rfl⟩ := hR.sl
    exact take_page4 line ns a _ c hp h4 hl w1 he
  · obtain ⟨a', c', rfl⟩ := hR.sl
    exact take_pageN line n a b c a' _ c' hp hn hl (by omega) w1 he
  · have := hR.empty
    subst this
    exact take_nopage line wd ns hp n1 hl w1 he
  · obtain ⟨g, k, vc, la, lc, ll, qs, pt, pf, pl, rfl, hk, hke, hll, hr, hL, hnew⟩ := rep_lane hR
    have hma := mass_last (es := es) (d := d)
    exact take_lane1 line ns W.heap.size qs k g vc la lc ll pt pf pl hp h1 hl hk (by omega) w1 he hr
  · obtain ⟨g, k, vc, la, lc, ll, qs, pt, pf, pl, rfl, hk, hke, hll, hr, hL, hnew⟩ := rep_lane hR
    have hl0 : ll.length = 0 := hll
    rw [hl0] at hr
    exact take_nolane line wd ns W.heap.size qs k g vc la lc ll pt pf pl hp n1 n2 hl hk w1 he hr
  · obtain ⟨g, k, vc, h, lc, ks, m, qs, pt, pf, pl, yx, ya, yc, rfl, hk, hkm, hr, hL, hY, hnew⟩ := rep_put hR
    exact take_noput line wd ns W.heap.size qs k g vc h lc ks m pt pf pl yx ya yc _ _ hp hq n1 n2 hl hk hkm w1 he hr hL
/-- The pages behind a step of Read's closure. -/
theorem gal_step (W : World) (ds ds' : List PgD) (v : Value) (O S : Nat) (line : List UInt8) (w1 : World) (he : Env w1) (k1 : Kp W w1) (hR : Rep w1 W.heap.size v ds) (hO : Blk w1 O [v] 23) (hWO : W.heap.size ≤ O) (hS : Blk w1 S [sv line] 9) (hl : line.length ≤ 10000) (hm : mass ds ≤ 100000) (ht : takeP ds line = some ds') :
    Calls Tryd.prog 20 #[.pointer (some ⟨O, 0, none⟩), .pointer (some ⟨S, 0, none⟩)] w1 fun e w2 => e = .returned (.tuple #[]) ∧ (∃ v2, Rep w2 W.heap.size v2 ds' ∧ Blk w2 O [v2] 23) ∧ Kp W w2 ∧ ∀ B b, Blk w1 B [.bool b] 4 → Blk w2 B [.bool b] 4 := by
  obtain ⟨va, vc, rfl⟩ := hR.sl
  refine (closure_ok va _ vc line O S w1 (fun v' w2 => Rep w2 W.heap.size v' ds' ∧ Keeps W w1 w2) hO hS ((gal_take W ds ds' _ O line w1 he k1 hR hO hl hm ht).mono fun e w2 h => ?_)).mono ?_
  · obtain ⟨v', rfl, h1, h2, h3⟩ := h
    obtain ⟨a, c, rfl⟩ := h1.sl
    exact ⟨a, _, c, rfl, h3, h1, h2⟩
  · rintro e w' ⟨rfl, a, n, c, w2, ⟨h1, h2⟩, h3, rfl⟩
    exact ⟨rfl, ⟨_, h1.move (Typed.away h3 (by decide) (by decide) (by decide) 0 _), h3.set 0 _⟩, Kp.setCell h2.1 hWO _, fun B b hB => blk_away (h2.2 B b hB) h3 (by decide) 0 _⟩
theorem gal_step_bad (W : World) (ds : List PgD) (v : Value) (O S : Nat) (line : List UInt8) (w1 : World) (he : Env w1) (k1 : Kp W w1) (hR : Rep w1 W.heap.size v ds) (hO : Blk w1 O [v] 23) (hS : Blk w1 S [sv line] 9) (hl : line.length ≤ 10000) (hm : mass ds ≤ 100000) (ht : takeP ds line = none) :
    Calls Tryd.prog 20 #[.pointer (some ⟨O, 0, none⟩), .pointer (some ⟨S, 0, none⟩)] w1 fun e w2 => e = .panicked gone ∧ Kp W w2 ∧ ∀ B b, Blk w1 B [.bool b] 4 → Blk w2 B [.bool b] 4 := by
  obtain ⟨va, vc, rfl⟩ := hR.sl
  refine (closure_bad _ _ _ line O S w1 (fun w2 => Kp w1 w2) hO hS (gal_bad W ds _ line w1 he hR hl hm ht)).mono ?_
  rintro e w2 ⟨rfl, k2⟩
  exact ⟨rfl, k1.trans k2, fun B b hB => hB.kp k2⟩
end Go.Proofs.YteadhacoglcbfaaDoor
namespace Go.Proofs.YteadhacoglcbfaaDoor

open Go.ChangeShapes Go.WideShapes Go.ChangeAt Go.RowKit Go.Shelf

theorem index10 (c : UInt8) (r : List UInt8) : Lib.index (c :: r) [10] = if c = 10 then 0 else if Lib.index r [10] = -1 then -1 else Lib.index r [10] + 1 := by
  conv => lhs; unfold Lib.index
  by_cases h : c = 10
  · subst h; simp [List.isPrefixOf]
  · have : ([10] : List UInt8).isPrefixOf (c :: r) = false := by
      simp only [List.isPrefixOf, Bool.and_true, beq_eq_false_iff_ne]
      exact fun e => h e.symm
    rw [this, if_neg h]
    by_cases h2 : Lib.index r [10] = -1 <;> simp [h2]
theorem index10_no : ∀ {a : List UInt8}, (10 : UInt8) ∉ a → Lib.index a [10] = -1
  | [], _ => by decide
  | c :: r, h => by
    rw [index10, if_neg (fun e => h (by rw [e]; exact List.mem_cons_self)), if_pos (index10_no fun hr => h (List.mem_cons_of_mem _ hr))]
theorem index10_at (b : List UInt8) : ∀ {a : List UInt8}, (10 : UInt8) ∉ a → Lib.index (a ++ 10 :: b) [10] = (a.length : Int)
  | [], _ => by rw [List.nil_append, index10, if_pos rfl]; rfl
  | c :: r, h => by
    have ih := index10_at b (a := r) (fun hr => h (List.mem_cons_of_mem _ hr))
    rw [List.cons_append, index10, if_neg (fun e => h (by rw [e]; exact List.mem_cons_self)), ih, if_neg (by omega), List.length_cons]
    omega
theorem cut10_at (a b : List UInt8) (h : (10 : UInt8) ∉ a) : Lib.cut (a ++ 10 :: b) [10] = (a, b, true) := by
  unfold Lib.cut
  rw [index10_at b h, if_pos (by omega), Int.toNat_natCast, List.take_left' rfl, ← List.drop_drop, List.drop_left' rfl]
  rfl
theorem cut10_no (a : List UInt8) (h : (10 : UInt8) ∉ a) : Lib.cut a [10] = (a, [], false) := by
  unfold Lib.cut
  rw [index10_no h, if_neg (by omega)]
theorem split10 : ∀ (l : List UInt8), (10 : UInt8) ∈ l → ∃ a b, l = a ++ 10 :: b ∧ (10 : UInt8) ∉ a
  | [], h => by cases h
  | c :: r, h => by
    by_cases e : c = 10
    · exact ⟨[], r, by rw [e]; rfl, by simp⟩
    · have hr : (10 : UInt8) ∈ r := by
        rcases List.mem_cons.1 h with h | h
        · exact absurd h.symm e
        · exact h
      obtain ⟨a, b, rfl, hn⟩ := split10 r hr
      exact ⟨c :: a, b, rfl, fun hm => by
        rcases List.mem_cons.1 hm with hm | hm
        · exact e hm.symm
        · exact hn hm⟩
/-- A text, line by line: what is left, the line, the pages. -/
def restK (s : List UInt8) : Nat → List UInt8
  | 0 => s
  | k + 1 => (Lib.cut (restK s k) [10]).2.1
def lineK (s : List UInt8) (k : Nat) : List UInt8 := (Lib.cut (restK s k) [10]).1
def dsK (s : List UInt8) : Nat → Option (List PgD)
  | 0 => some []
  | k + 1 => (dsK s k).bind fun ds => takeP ds (lineK s k)
/-- The line k stands where it can. -/
def Good (s : List UInt8) (k : Nat) : Prop := restK s k ≠ [] ∧ (Lib.cut (restK s k) [10]).2.2 = true ∧ (dsK s (k + 1)).isSome = true
theorem cut_short (r : List UInt8) (h : (Lib.cut r [10]).2.2 = true) : ∃ a, (10 : UInt8) ∉ a ∧ r = a ++ 10 :: (Lib.cut r [10]).2.1 ∧ (Lib.cut r [10]).1 = a := by
  by_cases hm : (10 : UInt8) ∈ r
  · obtain ⟨a, b, rfl, hn⟩ := split10 r hm
    rw [cut10_at a b hn]
    exact ⟨a, hn, rfl, rfl⟩
  · rw [cut10_no r hm] at h
    cases h
theorem rest_len (s : List UInt8) : ∀ k, (∀ j, j < k → Good s j) → (restK s k).length + k ≤ s.length
  | 0, _ => by simp [restK]
  | k + 1, h => by
    have ih := rest_len s k fun j hj => h j (by omega)
    obtain ⟨_, h2, _⟩ := h k (by omega)
    obtain ⟨a, _, e, _⟩ := cut_short _ h2
    have := congrArg List.length e
    rw [List.length_append, List.length_cons] at this
    show (Lib.cut (restK s k) [10]).2.1.length + (k + 1) ≤ s.length
    omega
theorem cut_le (r : List UInt8) : (Lib.cut r [10]).1.length ≤ r.length ∧ (Lib.cut r [10]).2.1.length ≤ r.length := by
  by_cases hm : (10 : UInt8) ∈ r
  · obtain ⟨a, b, rfl, hn⟩ := split10 r hm
    rw [cut10_at a b hn, List.length_append, List.length_cons]
    exact ⟨by show a.length ≤ _; omega, by show b.length ≤ _; omega⟩
  · rw [cut10_no r hm]
    exact ⟨Nat.le_refl _, Nat.zero_le _⟩
theorem rest_le (s : List UInt8) : ∀ k, (restK s k).length ≤ s.length
  | 0 => Nat.le_refl _
  | k + 1 => Nat.le_trans (cut_le _).2 (rest_le s k)
theorem ds_mass {s : List UInt8} : ∀ {k : Nat} {ds : List PgD}, dsK s k = some ds → mass ds = k
  | 0, ds, h => by cases h; rfl
  | k + 1, ds, h => by
    unfold dsK at h
    rw [Option.bind_eq_some_iff] at h
    obtain ⟨d, h1, h2⟩ := h
    rw [takeP_mass h2, ds_mass h1]
theorem good_or (s : List UInt8) : ∀ m, (∀ j, j < m → Good s j) ∨ ∃ N, N < m ∧ (∀ j, j < N → Good s j) ∧ ¬ Good s N
  | 0 => .inl fun j h => by omega
  | m + 1 => by
    rcases good_or s m with h | ⟨N, h1, h2⟩
    · by_cases hg : Good s m
      · exact .inl fun j hj => by
          by_cases e : j = m
          · rw [e]; exact hg
          · exact h j (by omega)
      · exact .inr ⟨m, by omega, h, hg⟩
    · exact .inr ⟨N, by omega, h2⟩
theorem good_end (s : List UInt8) : ∃ N, N ≤ s.length ∧ (∀ j, j < N → Good s j) ∧ ¬ Good s N := by
  rcases good_or s (s.length + 1) with h | ⟨N, h1, h2⟩
  · have := rest_len s _ h
    omega
  · exact ⟨N, by omega, h2⟩
theorem good_uniq {s : List UInt8} {N M : Nat} (h1 : ∀ j, j < N → Good s j) (h2 : ¬ Good s N) (k1 : ∀ j, j < M → Good s j) (k2 : ¬ Good s M) : N = M := by
  rcases Nat.lt_trichotomy N M with h | h | h
  · exact absurd (k1 N h) h2
  · exact h
  · exact absurd (h1 M h) k2
theorem good_ds {s : List UInt8} : ∀ {k : Nat}, (∀ j, j < k → Good s j) → ∃ ds, dsK s k = some ds
  | 0, _ => ⟨[], rfl⟩
  | k + 1, h => Option.isSome_iff_exists.1 (h k (by omega)).2.2
def GalSt (W : World) (s : List UInt8) (k O : Nat) (v : Value) (w : World) : Prop := ∃ ds, dsK s k = some ds ∧ Rep w W.heap.size v ds ∧ Blk w O [v] 23 ∧ W.heap.size ≤ O
theorem gal_chain (W : World) (he : Env W) (s : List UInt8) (N : Nat) (hg : ∀ j, j < N → Good s j) (hs : s.length ≤ 1000000000) (hL : ∀ k, (lineK s k).length ≤ 10000) (hN : N ≤ 100000) : Chain W N (lineK s) (restK s) (GalSt W s) := by
  refine ⟨fun _ _ _ _ _ k ⟨ds, h1, h2, h3, h4⟩ => ⟨ds, h1, h2.move (Typed.kp k), h3.kp k, h4⟩, fun _ _ _ _ _ _ _ hB ⟨ds, h1, h2, h3, h4⟩ => ⟨ds, h1, h2.move (Typed.away hB (by decide) (by decide) (by decide) 0 _), blk_away h3 hB (by decide) 0 _, h4⟩, fun _ _ _ _ ⟨ds, h1, h2, h3, h4⟩ => ⟨h3, by obtain ⟨a, c, e⟩ := h2.sl; exact ⟨a, _, c, e⟩⟩, fun k hk => ?_, fun k => Nat.le_trans (rest_le s k) hs, fun k O v w1 S hk _ k1 hA hS => ?_⟩
  · obtain ⟨q1, q2, _⟩ := hg k hk
    exact ⟨q1, Prod.ext rfl (Prod.ext rfl q2)⟩
  · obtain ⟨ds, h1, h2, h3, h4⟩ := hA
    obtain ⟨ds', hd⟩ := Option.isSome_iff_exists.1 (hg k hk).2.2
    have ht : takeP ds (lineK s k) = some ds' := by
      have := hd
      unfold dsK at this
      rw [h1] at this
      exact this
    refine (gal_step W ds ds' v O S (lineK s k) w1 (he.kp k1) k1 h2 h3 h4 hS (hL k) (by rw [ds_mass h1]; omega) ht).mono ?_
    rintro e w2 ⟨rfl, ⟨v2, q1, q2⟩, q3, q4⟩
    exact ⟨rfl, ⟨v2, ds', hd, q1, q2, h4⟩, q3, q4⟩
/-- What is read of a text: the pages, or the line that cannot stand where it is. -/
def GalEnd (s : List UInt8) (W : World) (e : Ending) (w' : World) : Prop := Kp W w' ∧ ∃ N, (∀ j, j < N → Good s j) ∧ ¬ Good s N ∧
  ((restK s N = [] ∧ ∃ ds v, dsK s N = some ds ∧ e = .returned (.tuple #[v, .int .i64 0]) ∧ Rep w' W.heap.size v ds) ∨ (restK s N ≠ [] ∧ e = .returned (.tuple #[.slice none 0 0, .int .i64 ((N : Int) + 1)])))
theorem galRead_any (s : List UInt8) (W : World) (he : Env W) (hs : s.length ≤ 1000000000) (hL : ∀ k, (lineK s k).length ≤ 10000) (hN : ∀ N, (∀ j, j < N → Good s j) → N ≤ 100000) :
    Calls Tryd.prog 7 #[sv s] W (GalEnd s W) := by
  obtain ⟨N, _, hg, hb⟩ := good_end s
  have hN' := hN N hg
  have hC := gal_chain W he s N hg hs hL hN'
  have h0 : ∀ O w1, W.heap.size ≤ O → Kp W w1 → Blk w1 O [.slice none 0 0] 23 → GalSt W s 0 O (.slice none 0 0) w1 := fun O w1 hO _ hB => ⟨[], rfl, rep_nil _ _, hB, hO⟩
  by_cases hr : restK s N = []
  · refine Calls.mono (read_done W N (lineK s) (restK s) (GalSt W s) hC he hN' hr h0) ?_
    rintro e w' ⟨k, O, v, rfl, ds, h1, h2, _⟩
    exact ⟨k, N, hg, hb, .inl ⟨hr, ds, v, h1, rfl, h2⟩⟩
  · by_cases hc : (Lib.cut (restK s N) [10]).2.2 = true
    · obtain ⟨ds, hd⟩ := good_ds hg
      have ht : takeP ds (lineK s N) = none := by
        cases h : takeP ds (lineK s N) with
        | none => rfl
        | some ds' =>
          refine absurd ⟨hr, hc, ?_⟩ hb
          unfold dsK
          rw [hd]
          show (takeP ds (lineK s N)).isSome = true
          rw [h]; rfl
      refine Calls.mono (read_bad W N (lineK s) (restK s) (GalSt W s) hC he hN' (lineK s N) (restK s (N + 1)) hr (Prod.ext rfl (Prod.ext rfl hc)) (fun O v w1 S hO k1 hA hS => ?_) h0) ?_
      · obtain ⟨ds2, h1, h2, h3, h4⟩ := hA
        rw [hd] at h1
        cases h1
        exact gal_step_bad W ds v O S (lineK s N) w1 (he.kp k1) k1 h2 h3 hS (hL N) (by rw [ds_mass hd]; omega) ht
      · rintro e w' ⟨rfl, k⟩
        exact ⟨k, N, hg, hb, .inr ⟨hr, rfl⟩⟩
    · have hc' : (Lib.cut (restK s N) [10]).2.2 = false := by simpa using hc
      refine Calls.mono (read_open W N (lineK s) (restK s) (GalSt W s) hC he hN' (lineK s N) (restK s (N + 1)) hr (Prod.ext rfl (Prod.ext rfl hc')) h0) ?_
      rintro e w' ⟨rfl, k⟩
      exact ⟨k, N, hg, hb, .inr ⟨hr, rfl⟩⟩
end Go.Proofs.YteadhacoglcbfaaDoor
namespace Go.Proofs.YteadhacoglcbfaaDoor

open Go.ChangeShapes Go.WideShapes Go.ChangeAt Go.RowKit Go.Shelf

theorem getMod {zc : List Value} {j : Nat} (h : j < zc.length) : zc.toArray[j]! = zc[j] := by
  rw [getElem!_pos _ j (by simpa using h)]; simp
theorem zeros_flat (zc : List Value) (m : Nat) (hm : zc.length = m) : ∀ n, (Builtin.zeroCells zc.toArray n).toList = (List.replicate n zc).flatten := by
  intro n
  have step : ∀ n, (List.range (n * m)).map (fun i => zc.toArray[i % m]!) = (List.replicate n zc).flatten := by
    intro n
    induction n with
    | zero => simp
    | succ n ih =>
      rw [Nat.add_mul, Nat.one_mul, List.range_add, List.map_append, ih, List.replicate_succ', List.flatten_append]
      congr 1
      rw [List.map_map]
      apply List.ext_getElem
      · simp [hm]
      · intro i h1 h2
        simp only [List.length_map, List.length_range] at h1
        have e : (n * m + i) % m = i := by rw [Nat.mul_comm, Nat.mul_add_mod, Nat.mod_eq_of_lt h1]
        simp only [List.getElem_map, List.getElem_range, Function.comp, e, List.flatten_cons, List.flatten_nil, List.append_nil]
        exact getMod (by omega)
  unfold Builtin.zeroCells
  rw [Array.toList_map, Array.toList_range, List.size_toArray, hm]
  exact step n
theorem run_lit_zeros {P : Program} (w : World) (t tn ty e : TypeId) (i : TypeInfo) (z : Value) (k kn : IntKind) (ht : P.underlying t = some (.slice e)) (htn : P.underlying tn = some (.int kn)) (hi : P.info? e = some i) (hz : i.zero = some z)
    (B n : Nat) (h0 : 0 < n) (hs : 0 < i.size) (h63 : (n : Int) ≤ 9223372036854775807) (h48 : n * i.bytes ≤ 281474976710656) :
    (Builtin.append_ #[t, tn] ty #[.slice (some ⟨B, 0, none⟩) 0 0, .int k n]).run P w =
      .ok (.slice (some ⟨w.heap.size, 0, none⟩) n (grownCap w n 0 e)) (w.drew.alloc (.cells (Builtin.zeroCells z.cells n ++ Builtin.zeroCells z.cells (grownCap w n 0 e - n)) e)) := by
  have hn : n ≠ 0 := by omega
  have hw : IntKind.i64.wrap (n : Int) = n := by rw [IntKind.wrap_i64]; omega
  have h63' : ¬ (9223372036854775807 < (n : Int)) := by omega
  have h48' : ¬ (281474976710656 < Builtin.nextslicecap n 0 * i.bytes) := by rw [nextslicecap_zero h0]; omega
  have h48i : ¬ (281474976710656 < (n : Int) * (i.bytes : Int)) := by
    rw [← Int.natCast_mul]
    omega
  have hneg : ¬ ((n : Int) < 0) := by omega
  have hns : ¬ (n * i.size = 0) := Nat.mul_ne_zero hn (by omega)
  have hf : ∀ w' : World, (Builtin.firstCells i.size 0 (.slice (some ⟨B, 0, none⟩) 0 0)).run P w' = .ok #[] w' := fun w' => run_firstCells_some (P := P) w' i.size 0 ⟨B, 0, none⟩ 0 0 [] (by simp) (fun j v h => by simp at h)
  simp [Builtin.append_, run_underlying ht, run_underlying htn, sizeOf, typeInfo, zeroValue, hi, hz, asInt, asIntOf, hw, hn, hneg, hns, h63', h48', h48i, Question.forced, hf, newRow, grownCap]
theorem run_lit_none {P : Program} (w : World) (t tn ty e : TypeId) (i : TypeInfo) (k kn : IntKind) (ht : P.underlying t = some (.slice e)) (htn : P.underlying tn = some (.int kn)) (hi : P.info? e = some i) (B : Nat) :
    (Builtin.append_ #[t, tn] ty #[.slice (some ⟨B, 0, none⟩) 0 0, .int k 0]).run P w = .ok (.slice (some ⟨B, 0, none⟩) 0 0) w := by
  have hw : IntKind.i64.wrap 0 = 0 := by decide
  simp [Builtin.append_, run_underlying ht, run_underlying htn, sizeOf, typeInfo, hi, asInt, asIntOf, hw, storeCells]
theorem rowZeros {α : Type} {o : Oper} {a : Act} {w : World} {K : Act → World → Prop} {Q : Exit → Act → World → Prop} (s x : Operand) (t tn : TypeId)
    (ho : o.op = .call { callee := .builtin .append, args := #[s, x], argTypes := #[t, tn] }) {base : Nat} {e : TypeId} {z : Value} {n bytes : Nat} {k kn : IntKind} (ht : Tryd.prog.underlying t = some (.slice e)) (htn : Tryd.prog.underlying tn = some (.int kn))
    (hinfo : (Tryd.prog.info? e).map (fun i => (i.zero, i.size, i.bytes)) = some (some z, n, bytes)) (hzs : z.cells.size = n) (hsz : 0 < n) {enc : α → List Value} {y : α} (hy : enc y = z.cells.toList)
    {B : Nat} (hB : w.heap[B]? = some (.cells #[] e (0, 0))) (hbB : base ≤ B) (hs : a.eval s = .slice (some ⟨B, 0, none⟩) 0 0) {m : Nat} (hx : a.eval x = .int k m) (hm : m ≤ 1000000) (hby : bytes ≤ 1000) (hbase : base ≤ w.heap.size)
    (h : ∀ v' w', Row w' base e n enc v' (List.replicate m y) → Kp w w' → K (a.put o.dst v') w') : o.wp Tryd.prog a w K Q := by
  obtain ⟨i, hi, hz0, hz1, hz2⟩ := info_parts hinfo
  rcases Nat.eq_zero_or_pos m with rfl | h0
  · refine Lib.wp_append_run w s x t tn ho _ _ hs hx _ _ (run_lit_none w t tn o.type e i k kn ht htn hi B) ?_
    refine h _ _ ⟨by simp, .inr ⟨B, 0, #[], rfl, hbB, hB, Nat.le_refl _, Nat.zero_le _, by simp, by simp⟩⟩ (Kp.refl w)
  · have hmm : m * i.bytes ≤ 1000000 * 1000 := Nat.mul_le_mul hm (by rw [hz2]; exact hby)
    refine Lib.wp_append_run w s x t tn ho _ _ hs hx _ _ (run_lit_zeros w t tn o.type e i z k kn ht htn hi hz0 B m h0 (by omega) (by omega) (by omega)) ?_
    have hge := grownCap_ge w m 0 e
    have hcm : grownCap w m 0 e ≤ maxLen := grownCap_le_maxLen w m 0 e (by unfold maxLen; omega)
    have hfl : (Builtin.zeroCells z.cells m).toList = (List.replicate m y).flatMap enc := by
      have := zeros_flat z.cells.toList n (by simpa using hzs) m
      rw [Array.toArray_toList] at this
      rw [this, ← hy, List.flatMap_def, List.map_replicate]
    refine h _ _ ⟨?_, .inr ⟨w.heap.size, _, _, ?_, hbase, heap_alloc_new w.drew _, ?_, hcm, ?_, ?_⟩⟩ ((Kp.refl w).drew.alloc _)
    · rw [← hfl, Array.length_toList, size_zeroCells, hzs, List.length_replicate]
    · rw [List.length_replicate]
    · rw [List.length_replicate]; exact hge
    · rw [Array.size_append, size_zeroCells, size_zeroCells, hzs, ← Nat.add_mul, Nat.add_sub_of_le hge]
    · rw [List.length_replicate, Array.toList_append, ← hfl]
      exact List.take_left' (by rw [Array.length_toList, size_zeroCells, hzs])
end Go.Proofs.YteadhacoglcbfaaDoor
namespace Go.Proofs.YteadhacoglcbfaaDoor

open Go.ChangeShapes Go.WideShapes Go.ChangeAt Go.RowKit

def bigLane (x : Lane) : Bool := decide (100 < x.s.l.length)
def bigPage (p : Page) : Bool := decide (20 < p.s.l.length) || p.s.l.any bigLane
def largeL (l : List Page) : Bool := (l.take 40).any bigPage || decide (40 < l.length)
theorem any_snoc {α : Type} {f : α → Bool} {l : List α} {k : Nat} {x : α} (h : l[k]? = some x) : (l.take (k + 1)).any f = ((l.take k).any f || f x) := by
  rw [List.take_add_one, h, List.any_append]; simp
theorem any_take {α : Type} {f : α → Bool} {l : List α} {k : Nat} {x : α} (h : l[k]? = some x) (hx : f x = true) : l.any f = true :=
  List.any_eq_true.2 ⟨x, List.mem_of_getElem? h, hx⟩
theorem large_yes {l : List Page} {k : Nat} {p : Page} (hk : k < 40) (h : l[k]? = some p) (hp : bigPage p = true) : largeL l = true := by
  unfold largeL
  rw [any_take (k := k) (by rw [List.getElem?_take, if_pos hk]; exact h) hp]; rfl

set_option maxRecDepth 100000 in
set_option maxHeartbeats 2000000 in
theorem large_any (a : Option Addr) (len cap : Nat) (l : List Page) (w : World) (hl : SlOk w 4 Page.cells a len cap l) (hg : ∀ y, y ∈ l → y.good w) :
    Calls Tryd.prog 13 #[.slice a len cap] w fun e w' => e = .returned (.bool (largeL l)) ∧ w' = w := by
  have hlen := hl.1
  have hcap := hl.2.1
  have hmx := hl.2.2.1
  unfold maxLen at hmx
  subst hlen
  have HG := Lib.hid hg
  have HL := Lib.hid hl
  clear hg hl
  go_enter Tryd.func13, Tryd.ntmps13
  go_wp2
  go_loopw [3] (fun v3 wr => ∃ k : Nat, k ≤ l.length ∧ k ≤ 40 ∧ v3 = .int .i64 k ∧ (l.take k).any bigPage = false ∧ wr = w) (fun v3 _ => l.length - (intOf v3).toNat)
  case atStart => exact ⟨0, Nat.zero_le _, by omega, rfl, by simp, rfl⟩
  case round =>
    obtain ⟨k, hk, hk4, rfl, han, rfl⟩ := hrel
    by_cases hlt : k < l.length ∧ k < 40
    · obtain ⟨hlt, hk5⟩ := hlt
      have j1 : decide ((k : Int) < (l.length : Int)) = true := decide_eq_true (by omega)
      have j2 : decide ((k : Int) < 40) = true := decide_eq_true (by omega)
      obtain ⟨x, hx⟩ : ∃ x, l[k]? = some x := ⟨l[k], List.getElem?_eq_getElem hlt⟩
      rcases HL.out.2.2.2 with e | ⟨b, off, rfl, hb, hrow⟩
      · rw [e] at hx; simp at hx
      · have hgx := HG.out x (List.mem_of_getElem? hx)
        have hsn := any_snoc (f := bigPage) hx
        obtain ⟨⟨la, ll, lc, ls⟩, xt, xf, xl⟩ := x
        have c0 := hrow k _ hx 0 _ rfl
        simp only [Nat.add_zero] at c0
        obtain ⟨_, _, _, hs, hgl⟩ := hgx
        simp only at hs hgl c0
        have hsl := hs.1
        have hsc := hs.2.1
        have hsm := hs.2.2.1
        unfold maxLen at hsm
        have HX := Lib.hid hx
        have HSN := Lib.hid hsn
        have HS := Lib.hid hs
        have HGL := Lib.hid hgl
        have HAN := Lib.hid han
        clear hrow hx hsn hs hgl han
        subst hsl
        by_cases h20 : 20 < ls.length
        · have j3 : decide ((20 : Int) < (ls.length : Int)) = true := decide_eq_true (by omega)
          have j4 : decide (20 < ls.length) = true := decide_eq_true (by omega)
          have hy := large_yes hk5 HX.out (by unfold bigPage; simp only [j4]; rfl)
          have HY := Lib.hid hy
          clear hy
          go_wp2
          (try go_ret)
          exact ⟨ret_bool HY.out.symm, rfl⟩
        · have j3 : decide ((20 : Int) < (ls.length : Int)) = false := decide_eq_false (by omega)
          have j4 : decide (20 < ls.length) = false := decide_eq_false (by omega)
          go_wp2
          go_loopw [4] (fun v4 wr' => ∃ m : Nat, m ≤ ls.length ∧ v4 = .int .i64 m ∧ (ls.take m).any bigLane = false ∧ wr' = wr) (fun v4 _ => ls.length - (intOf v4).toNat)
          case atStart => exact ⟨0, Nat.zero_le _, rfl, by simp, rfl⟩
          case round =>
            obtain ⟨m, hm, rfl, ham, rfl⟩ := hrel
            by_cases hlt2 : m < ls.length
            · obtain ⟨y, hy⟩ : ∃ x, ls[m]? = some x := ⟨ls[m], List.getElem?_eq_getElem hlt2⟩
              rcases HS.out.2.2.2 with e | ⟨lb, lo, rfl, hlb, hrow⟩
              · rw [e] at hy; simp at hy
              · have hgy := HGL.out y (List.mem_of_getElem? hy)
                have hsn := any_snoc (f := bigLane) hy
                obtain ⟨yx, ⟨pa, pl, pc, ps⟩⟩ := y
                have c1 := hrow m _ hy 1 _ rfl
                simp only at c1
                obtain ⟨_, hps, _⟩ := hgy
                simp only at hps
                have hpl := hps.1
                subst hpl
                have HY := Lib.hid hy
                have HSM := Lib.hid hsn
                have HAM := Lib.hid ham
                clear hrow hy hsn ham hps
                by_cases h100 : 100 < ps.length
                · have j5 : decide ((100 : Int) < (ps.length : Int)) = true := decide_eq_true (by omega)
                  have j6 : decide (100 < ps.length) = true := decide_eq_true (by omega)
                  have hz := large_yes hk5 HX.out (by unfold bigPage; rw [any_take HY.out (by unfold bigLane; exact j6)]; simp)
                  have HZ := Lib.hid hz
                  clear hz
                  go_wp2
                  (try go_ret)
                  exact ⟨ret_bool HZ.out.symm, rfl⟩
                · have j5 : decide ((100 : Int) < (ps.length : Int)) = false := decide_eq_false (by omega)
                  have j6 : decide (100 < ps.length) = false := decide_eq_false (by omega)
                  have hz : (ls.take (m + 1)).any bigLane = false := by
                    rw [HSM.out, HAM.out, Bool.false_or]; exact j6
                  have HZ := Lib.hid hz
                  clear hz
                  go_wp2
                  go_roundw
                  case rel => exact ⟨m + 1, by omega, by go_num, HZ.out, by first | trivial | rfl⟩
                  case measure => simp [intOf]; omega
            · obtain rfl : m = ls.length := by omega
              have j5 : decide ((ls.length : Int) < (ls.length : Int)) = false := decide_eq_false (by omega)
              rw [List.take_length] at ham
              have hz : (l.take (k + 1)).any bigPage = false := by
                rw [HSN.out, HAN.out, Bool.false_or]; unfold bigPage; simp only [ham, Bool.or_false]; exact j4
              have HZ := Lib.hid hz
              clear hz ham
              go_wp2
              go_roundw
              case rel => exact ⟨k + 1, by omega, by omega, by go_num, HZ.out, by first | trivial | rfl⟩
              case measure => simp [intOf]; omega
    · have hz : largeL l = decide (40 < l.length) := by
        unfold largeL
        have e : l.take 40 = l.take k := by
          rw [List.take_eq_take_iff]; omega
        rw [e, han]; rfl
      by_cases h40 : 40 < l.length
      · obtain rfl : k = 40 := by omega
        have j1 : decide ((40 : Int) < (l.length : Int)) = true := decide_eq_true (by omega)
        have j2 : decide (40 < l.length) = true := decide_eq_true h40
        have j3 : decide (((40 : Nat) : Int) < (l.length : Int)) = true := decide_eq_true (by omega)
        rw [j2] at hz
        have HZ := Lib.hid hz
        clear hz han
        go_wp2
        (try go_ret)
        exact ⟨ret_bool HZ.out.symm, rfl⟩
      · obtain rfl : k = l.length := by omega
        have j1 : decide ((40 : Int) < (l.length : Int)) = false := decide_eq_false (by omega)
        have j2 : decide (40 < l.length) = false := decide_eq_false h40
        have j3 : decide ((l.length : Int) < (l.length : Int)) = false := decide_eq_false (by omega)
        rw [j2] at hz
        have HZ := Lib.hid hz
        clear hz han
        go_wp2
        (try go_ret)
        exact ⟨ret_bool HZ.out.symm, rfl⟩
end Go.Proofs.YteadhacoglcbfaaDoor
