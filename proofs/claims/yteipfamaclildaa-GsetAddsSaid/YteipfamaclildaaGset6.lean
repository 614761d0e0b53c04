/- How high each glue is: the walk of gset.Sizes. -/
import Derived.Test.YteipfamaclildaaGset6P

namespace Go.Proofs.Yteipfamaclildaa

open Go.RowKit Go.Shelf

attribute [local go_sem] Oper.semAt_some

def natsG (gl : List Tot) : List Int := gl.map (·.nat)
def partsG (how ord : Int) (gl : List Tot) : List Int := gl.map (partG how ord)
theorem natsG_succ {gl : List Tot} {k : Nat} {t : Tot} (h : gl[k]? = some t) : natsG (gl.take (k + 1)) = natsG (gl.take k) ++ [t.nat] := by
  rw [List.take_add_one, h]; simp [natsG]
theorem partsG_succ {how ord : Int} {gl : List Tot} {k : Nat} {t : Tot} (h : gl[k]? = some t) : partsG how ord (gl.take (k + 1)) = partsG how ord (gl.take k) ++ [partG how ord t] := by
  rw [List.take_add_one, h]; simp [partsG]
def shrsG (gl : List Tot) : List Int := gl.map (·.shr)
def shG (amt : Int) (pl : List Int) (j : Nat) : Int := if shOk amt pl = true then shareAt amt pl j else 0
def addG (how amt : Int) (pl sl : List Int) (j : Nat) : Int := if how = 3 then -(nth sl j) else if how = 2 then -(shG amt pl j) else if how = 1 then shG amt pl j else 0
/-- How high each glue is. -/
def sizesL (how ord amt : Int) (gl : List Tot) : List Int := offL (natsG gl) (addG how amt (partsG how ord gl) (shrsG gl))
theorem natsG_length (gl : List Tot) : (natsG gl).length = gl.length := by simp [natsG]
theorem partsG_length (how ord : Int) (gl : List Tot) : (partsG how ord gl).length = gl.length := by simp [partsG]
theorem nth_map {f : Tot → Int} {gl : List Tot} {k : Nat} {t : Tot} (h : gl[k]? = some t) : nth (gl.map f) k = f t := by unfold nth; simp [List.getD, h]
theorem right_fld {t : Tot} (h : fldT t = true) : 0 ≤ t.nat ∧ t.nat ≤ 1125899906842624 ∧ 0 ≤ t.shr ∧ t.shr ≤ 1125899906842624 := by
  obtain ⟨g0, g1, g2, g3, g4, g5⟩ := fldT_iff.1 h
  have g0 := inF_iff.1 g0; have g5 := inF_iff.1 g5
  omega
theorem Tot.cells_len (t : Tot) : t.cells.length = 6 := rfl

set_option maxRecDepth 100000 in
set_option maxHeartbeats 4000000 in
theorem sizes_any (s0 s1 s2 s3 s4 : Int) (a : Option Addr) (len cap : Nat) (gl : List Tot) (w : World) (h0 : 0 ≤ s0) (h3 : s0 ≤ 3) (h2 : inF s2 = true) (hl : SlOk w 6 Tot.cells a len cap gl) (hf : ∀ t ∈ gl, fldT t = true) (h5 : len ≤ 5000) :
    Calls Try.prog 42 #[.agg #[.int .i64 s0, .int .i64 s1, .int .i64 s2, .int .i64 s3, .int .i64 s4], .slice a len cap] w fun e w' => ∃ v, e = .returned v ∧ Row w' w.heap.size 28 1 enc1 v (sizesL s0 s1 s2 gl) ∧ Kp w w' := by
  have cF := gfair_any s2
  rw [h2] at cF
  have CF := Lib.hid cF
  have H2 := Lib.hid h2
  have HF := Lib.hid hf
  have j0 : decide (s0 < 0) = false := decide_eq_false (by omega)
  have j1 : decide (3 < s0) = false := decide_eq_false (by omega)
  have hcap := hl.2.1
  have hmx := hl.2.2.1
  unfold maxLen at hmx
  have HL := Lib.hid hl
  clear cF h2 hf hl
  refine calls_marks Try.func42 rfl ?_
  simp only [Try.ntmps42, List.size_toArray, List.length_cons, List.length_nil, Nat.reduceAdd, Nat.reduceSub, Array.replicate_succ, Array.replicate_zero, List.push_toArray, List.append_toArray, List.nil_append, List.cons_append]
  go_wp2_with (go_at_call 67; go_must (refine (CF.out _).mono ?_); rintro e w' ⟨rfl, rfl⟩)
  refine named_world (F := fun W => Blk W w.heap.size (ints [s0, s1, s2, s3, s4]) 69 ∧ Blk W (w.heap.size + 1) [.slice none 0 0] 49 ∧ Kp w W ∧ w.heap.size + 2 = W.heap.size) ⟨(by (repeat (first | with_reducible assumption | ((with_reducible refine Blk.newL ?_ ?_); (focus (first | (simp; done) | omega)); rfl) | with_reducible refine Blk.drew ?_ | with_reducible refine Blk.drewN ?_ _ | with_reducible refine Blk.alloc ?_ _ | ((with_reducible refine Blk.other ?_ ?_ _); rotate_left; (focus (first | with_reducible assumption | omega | (simp; done) | (simp; omega))))))), (by (repeat (first | with_reducible assumption | ((with_reducible refine Blk.newL ?_ ?_); (focus (first | (simp; done) | omega)); rfl) | with_reducible refine Blk.drew ?_ | with_reducible refine Blk.drewN ?_ _ | with_reducible refine Blk.alloc ?_ _ | ((with_reducible refine Blk.other ?_ ?_ _); rotate_left; (focus (first | with_reducible assumption | omega | (simp; done) | (simp; omega))))))), (by (repeat (first | with_reducible assumption | with_reducible exact Kp.refl _ | with_reducible refine Kp.drew ?_ | with_reducible refine Kp.drewN ?_ _ | with_reducible refine Kp.alloc ?_ _ | ((with_reducible refine Kp.setCell ?_ ?_ _); rotate_left; (focus (first | omega | (simp; done) | (simp; omega)))) | with_reducible refine Kp.trans ?_ (by assumption)))), by simp⟩ ?_
  rintro w1 ⟨xs, xo, k1, z1⟩
  clear j0 j1 CF
  go_loopw [6, 30] (fun v6 v30 wr => ∃ (k : Nat) (vo vp : Value), k ≤ len ∧ v30 = .int .i64 k ∧ vp = v6 ∧ Row wr w1.heap.size 28 1 enc1 vp (partsG s0 s1 (gl.take k)) ∧ Row wr w1.heap.size 28 1 enc1 vo (natsG (gl.take k)) ∧ Apart vo vp ∧ Blk wr (w.heap.size + 1) [vo] 49 ∧ Blk wr w.heap.size (ints [s0, s1, s2, s3, s4]) 69 ∧ Kp w wr ∧ w1.heap.size ≤ wr.heap.size) (fun _ v30 _ => len - (intOf v30).toNat)
  case atStart => exact ⟨0, _, _, Nat.zero_le _, rfl, rfl, Row.nil _ _ _ _ _, Row.nil _ _ _ _ _, .inl rfl, xo, xs, k1, Nat.le_refl _⟩
  case round =>
    obtain ⟨k, vo, v6, hk, rfl, rfl, r6, ro, hap, yo, ys, yk, hz⟩ := hrel
    by_cases hlt : k < len
    · have hll := HL.out.1
      obtain ⟨t, ht⟩ : ∃ t, gl[k]? = some t := ⟨gl[k]'(by omega), List.getElem?_eq_getElem _⟩
      have HN := Lib.hid (natsG_succ ht)
      have HP := Lib.hid (partsG_succ (how := s0) (ord := s1) ht)
      have hft := HF.out t (List.mem_of_getElem? ht)
      have hlk := HL.out.kp yk
      have hn5 : (natsG (gl.take k)).length + 1 ≤ 5001 := by unfold natsG; rw [List.length_map, List.length_take]; omega
      have hp5 : (partsG s0 s1 (gl.take k)).length + 1 ≤ 5001 := by unfold partsG; rw [List.length_map, List.length_take]; omega
      obtain ⟨t0, t1, t2, t3, t4, t5⟩ := t
      rcases hlk.2.2.2 with e | ⟨b, off, rfl, hb, hrow⟩
      · rw [e] at ht; simp at ht
      · have hc : ∀ c v, (Tot.cells ⟨t0, t1, t2, t3, t4, t5⟩)[c]? = some v → wr.cell? ⟨b, off + k * 6 + c, none⟩ = some v := fun c v hv => hrow k _ ht c v hv
        have c0 := hc 0 _ rfl; have c1 := hc 1 _ rfl; have c2 := hc 2 _ rfl; have c3 := hc 3 _ rfl; have c4 := hc 4 _ rfl; have c5 := hc 5 _ rfl
        rw [Nat.add_zero] at c0
        simp only at c0 c1 c2 c3 c4 c5
        have cFl := gfields_any t0 t1 t2 t3 t4 t5
        rw [hft] at cFl
        have CFL := Lib.hid cFl
        have hft2 := hft
        clear cFl hft hc hrow ht hlk hll
        simp only at HN HP
        go_wp2_with fail
        refine (CFL.out _).mono ?_
        rintro e w3 ⟨rfl, k3⟩
        have x8 : Blk w3 wr.heap.size (ints [t0, t1, t2, t3, t4, t5]) 31 := Blk.kp (by (repeat (first | with_reducible assumption | ((with_reducible refine Blk.newL ?_ ?_); (focus (first | (simp; done) | omega)); rfl) | with_reducible refine Blk.drew ?_ | with_reducible refine Blk.drewN ?_ _ | with_reducible refine Blk.alloc ?_ _ | ((with_reducible refine Blk.other ?_ ?_ _); rotate_left; (focus (first | with_reducible assumption | omega | (simp; done) | (simp; omega))))))) k3
        have xo3 := (yo.alloc (.cells #[.int .i64 t0, .int .i64 t1, .int .i64 t2, .int .i64 t3, .int .i64 t4, .int .i64 t5] 31)).kp k3
        have xs3 := (ys.alloc (.cells #[.int .i64 t0, .int .i64 t1, .int .i64 t2, .int .i64 t3, .int .i64 t4, .int .i64 t5] 31)).kp k3
        have r63 := (r6.alloc (.cells #[.int .i64 t0, .int .i64 t1, .int .i64 t2, .int .i64 t3, .int .i64 t4, .int .i64 t5] 31)).kp k3
        have ro3 := (ro.alloc (.cells #[.int .i64 t0, .int .i64 t1, .int .i64 t2, .int .i64 t3, .int .i64 t4, .int .i64 t5] 31)).kp k3
        have yk3 : Kp w w3 := (yk.alloc _).trans k3
        have hz3 : wr.heap.size < w3.heap.size := by have := k3.size; simp at this; omega
        have hbo : ∀ j, vo.ownBlock = some j → w1.heap.size ≤ j ∧ j < wr.heap.size := fun j e => ro.lt j e
        have hb6 : ∀ j, v6.ownBlock = some j → w1.heap.size ≤ j ∧ j < wr.heap.size := fun j e => r6.lt j e
        have hne1 : ¬ wr.heap.size = w.heap.size + 1 := by omega
        have hne2 : ¬ w.heap.size + 1 = wr.heap.size := by omega
        have cB := gby_any s0 s1 s2 s3 s4 t0 t1 t2 t3 t4 t5
        have hpr := partG_in (how := s0) (ord := s1) hft2
        obtain ⟨P, hP⟩ : ∃ P, partG s0 s1 ⟨t0, t1, t2, t3, t4, t5⟩ = P := ⟨_, rfl⟩
        rw [hP] at cB hpr
        have HP2 := HP.out
        rw [hP] at HP2
        have HP := Lib.hid HP2
        have CB := Lib.hid cB
        clear c0 c1 c2 c3 c4 c5 k3 r6 ro yo ys yk CFL cB hP HP2
        have c0 := x8.cell 0 rfl; have c1 := x8.cell 1 rfl; have c2 := x8.cell 2 rfl; have c3 := x8.cell 3 rfl; have c4 := x8.cell 4 rfl; have c5 := x8.cell 5 rfl
        have d0 := xs3.cell 0 rfl; have d1 := xs3.cell 1 rfl; have d2 := xs3.cell 2 rfl; have d3 := xs3.cell 3 rfl; have d4 := xs3.cell 4 rfl
        have co := xo3.cell 0 rfl
        go_wp2_with (first
          | (refine rowAppendAt ?gd (.tmp 37) (.tmp 40) 49 ?ho Try.underlying49 infoSp rfl (by decide) (ro3.alloc (.cells #[.int .i64 t0] 28)) ?hs (y := t0) rfl ?h1 (Blk.new _ _ 28) ?hx ?hl ?hb ?hz ?_; (case gd => rfl); (case ho => rfl); (case hs => rfl); (case h1 => simp [enc1, Value.oneCell']); (case hx => rfl); (case hl => unfold maxLen; omega); (case hb => omega); (case hz => simp; omega))
          | fail)
        intro g1 cap1 w4 hr4 hg4 hat4
        have xo4 := (xo3.alloc (.cells #[.int .i64 t0] 28)).below hg4 (fun j e => by have := hbo j e; omega)
        have xs4 := (xs3.alloc (.cells #[.int .i64 t0] 28)).below hg4 (fun j e => by have := hbo j e; omega)
        have x84 := (x8.alloc (.cells #[.int .i64 t0] 28)).below hg4 (fun j e => by have := hbo j e; omega)
        have r64 := (r63.alloc (.cells #[.int .i64 t0] 28)).other hg4 hap.symm
        have yk4 : Kp w w4 := (yk3.alloc _).grownRow hg4 (fun j e => by have := hbo j e; have := k1.size; omega)
        have hz4 : w3.heap.size + 1 ≤ w4.heap.size := by have := hg4.size; simp at this; omega
        have hap4 : Apart (.slice (some ⟨g1, 0, none⟩) ((natsG (gl.take k)).length + 1) cap1) v6 := hap.step (fun j e => (hb6 j e).2) hat4 (by first | omega | (simp; omega))
        clear d0 d1 d2 d3 d4 c0 c1 c2 c3 c4 c5 co x8 xs3 xo3 r63 ro3 hg4 hat4 yk3
        have c0 := x84.cell 0 rfl; have c1 := x84.cell 1 rfl; have c2 := x84.cell 2 rfl; have c3 := x84.cell 3 rfl; have c4 := x84.cell 4 rfl; have c5 := x84.cell 5 rfl
        have d0 := xs4.cell 0 rfl; have d1 := xs4.cell 1 rfl; have d2 := xs4.cell 2 rfl; have d3 := xs4.cell 3 rfl; have d4 := xs4.cell 4 rfl
        have e0 := xo4.cell 0 rfl
        have f0 := xo4.free 0
        go_wp2_with fail
        refine (CB.out _).mono ?_
        rintro e w6 ⟨rfl, k6⟩
        have hB1 : w.heap.size + 1 < w1.heap.size := by omega
        have xo6 := (xo4.set 0 (.slice (some ⟨g1, 0, none⟩) ((natsG (gl.take k)).length + 1) cap1)).kp k6
        have xs6 := (xs4.other (a := ⟨w.heap.size + 1, 0, none⟩) (by show w.heap.size ≠ w.heap.size + 1; omega) (.slice (some ⟨g1, 0, none⟩) ((natsG (gl.take k)).length + 1) cap1)).kp k6
        have r66 := (r64.store hB1 (.slice (some ⟨g1, 0, none⟩) ((natsG (gl.take k)).length + 1) cap1)).kp k6
        have ro6 := (hr4.store hB1 (.slice (some ⟨g1, 0, none⟩) ((natsG (gl.take k)).length + 1) cap1)).kp k6
        have yk6 : Kp w w6 := (yk4.setCell (p := ⟨w.heap.size + 1, 0, none⟩) (by simp) _).trans k6
        have hz6 : w4.heap.size ≤ w6.heap.size := by have := k6.size; simpa using this
        clear c0 c1 c2 c3 c4 c5 d0 d1 d2 d3 d4 e0 f0 x84 xs4 xo4 r64 hr4 k6 yk4 CB
        go_wp2_with (first
          | (refine rowAppendAt ?gd (.tmp 42) (.tmp 46) 49 ?ho Try.underlying49 infoSp rfl (by decide) (r66.alloc (.cells #[.int .i64 P] 28)) ?hs (y := P) rfl ?h1 (Blk.new _ _ 28) ?hx ?hl ?hb ?hz ?_; (case gd => rfl); (case ho => rfl); (case hs => rfl); (case h1 => simp [enc1, Value.oneCell']); (case hx => rfl); (case hl => unfold maxLen; omega); (case hb => omega); (case hz => simp; omega))
          | fail)
        intro g2 cap2 w7 hr7 hg7 hat7
        have xo7 := (xo6.alloc (.cells #[.int .i64 P] 28)).below hg7 (fun j e => by have := hb6 j e; omega)
        have xs7 := (xs6.alloc (.cells #[.int .i64 P] 28)).below hg7 (fun j e => by have := hb6 j e; omega)
        have ro7 := (ro6.alloc (.cells #[.int .i64 P] 28)).other hg7 hap4
        have yk7 : Kp w w7 := (yk6.alloc _).grownRow hg7 (fun j e => by have := hb6 j e; have := k1.size; omega)
        have hz7 : w6.heap.size + 1 ≤ w7.heap.size := by have := hg7.size; simp at this; omega
        have hap7 : Apart (.slice (some ⟨g2, 0, none⟩) ((partsG s0 s1 (gl.take k)).length + 1) cap2) (.slice (some ⟨g1, 0, none⟩) ((natsG (gl.take k)).length + 1) cap1) := hap4.symm.step (fun j e => (ro6.lt j e).2) hat7 (by first | omega | simp)
        rw [← HN.out] at ro7
        rw [← HP.out] at hr7
        clear xo6 xs6 r66 ro6 yk6 hg7 hat7
        go_wp2
        go_roundw
        case rel => exact ⟨k + 1, _, _, by omega, by go_num, rfl, hr7, ro7, hap7.symm, xo7, xs7, yk7, by omega⟩
        case measure => simp [intOf]; omega
    · obtain rfl : k = len := by omega
      have hta : gl.take k = gl := List.take_of_length_le (Nat.le_of_eq HL.out.1)
      rw [hta] at r6 ro
      have hbo : ∀ j, vo.ownBlock = some j → w1.heap.size ≤ j ∧ j < wr.heap.size := fun j e => ro.lt j e
      have hb6 : ∀ j, v6.ownBlock = some j → w1.heap.size ≤ j ∧ j < wr.heap.size := fun j e => r6.lt j e
      have HLL := Lib.hid HL.out.1
      have n0 := ys.lt
      have n1 := yo.lt
      clear hta hlt
      obtain rfl | rfl | rfl | rfl : s0 = 0 ∨ s0 = 3 ∨ s0 = 2 ∨ s0 = 1 := by omega
      · have d0 := ys.cell 0 rfl; have d1 := ys.cell 1 rfl; have d2 := ys.cell 2 rfl; have d3 := ys.cell 3 rfl; have d4 := ys.cell 4 rfl
        have e0 := yo.cell 0 rfl
        go_wp2
        refine ⟨_, results_tmp rfl _ _ _, vo, rfl, ?_, (by (repeat (first | with_reducible assumption | with_reducible exact Kp.refl _ | with_reducible refine Kp.drew ?_ | with_reducible refine Kp.drewN ?_ _ | with_reducible refine Kp.alloc ?_ _ | ((with_reducible refine Kp.setCell ?_ ?_ _); rotate_left; (focus (first | omega | (simp; done) | (simp; omega)))) | with_reducible refine Kp.trans ?_ (by assumption))))⟩
        have e : sizesL 0 s1 s2 gl = natsG gl := (offL_congr (fun j _ => rfl)).trans (offL_zero _)
        rw [e]
        exact (ro.alloc _).base k1.size
      · have d0 := ys.cell 0 rfl; have d1 := ys.cell 1 rfl; have d2 := ys.cell 2 rfl; have d3 := ys.cell 3 rfl; have d4 := ys.cell 4 rfl
        have e0 := yo.cell 0 rfl
        go_wp2
        have rw1 := ro.alloc (.cells #[.int .i64 1] 28)
        have yw1 := yo.alloc (.cells #[.int .i64 1] 28)
        have kw1 := yk.alloc (.cells #[.int .i64 1] 28)
        clear d0 d1 d2 d3 d4 e0 n0 n1 ro yo ys r6 xs xo yk
        go_loopw [59] (fun v59 wz => ∃ k2 : Nat, k2 ≤ k ∧ v59 = .int .i64 k2 ∧ Row wz w1.heap.size 28 1 enc1 vo (offL (natsG gl) (fun j => if j < k2 then -(nth (shrsG gl) j) else 0)) ∧ Blk wz (w.heap.size + 1) [vo] 49 ∧ Kp w wz ∧ w1.heap.size ≤ wz.heap.size) (fun v59 _ => k - (intOf v59).toNat)
        case atStart => exact ⟨0, Nat.zero_le _, rfl, by rw [offL_congr (g := fun _ => 0) (fun j _ => by simp), offL_zero]; exact rw1, yw1, kw1, by simp; omega⟩
        case round =>
          clear rw1 yw1 kw1
          obtain ⟨k2, hk2, rfl, rz, yz, yzk, hzz⟩ := hrel
          by_cases hlt : k2 < k
          · have hll := HLL.out
            obtain ⟨t, ht⟩ : ∃ t, gl[k2]? = some t := ⟨gl[k2]'(by omega), List.getElem?_eq_getElem _⟩
            have hft := right_fld (HF.out t (List.mem_of_getElem? ht))
            obtain ⟨g, capo, hv, hg1, hg2, hg3, hg4⟩ := rz.shape (by rw [offL_length, natsG_length]; omega)
            rw [offL_length, natsG_length, hll] at hv hg3
            unfold maxLen at hg4
            have hx : (offL (natsG gl) (fun j => if j < k2 then -(nth (shrsG gl) j) else 0))[k2]? = some t.nat := by
              rw [offL_get (by rw [natsG_length]; omega), if_neg (by omega), Int.add_zero]
              exact congrArg some (nth_map ht)
            have hset : (offL (natsG gl) (fun j => if j < k2 then -(nth (shrsG gl) j) else 0)).set k2 (t.nat - t.shr) = offL (natsG gl) (fun j => if j < k2 + 1 then -(nth (shrsG gl) j) else 0) := by
              refine offL_set ?_ (fun j _ hj => ?_)
              · rw [if_pos (by omega), show nth (natsG gl) k2 = t.nat from nth_map ht, show nth (shrsG gl) k2 = t.shr from nth_map ht]; omega
              · by_cases c : j < k2
                · rw [if_pos c, if_pos (by omega)]
                · rw [if_neg c, if_neg (by omega)]
            have cx := rz.cellAt hv hx
            have fx := rz.freeAt hv k2
            have rs := fun (wy : World) (ry : Row wy w1.heap.size 28 1 enc1 vo (offL (natsG gl) (fun j => if j < k2 then -(nth (shrsG gl) j) else 0))) => ry.setAt hv k2 (t.nat - t.shr)
            rw [hset] at rs
            have RS := Lib.hid rs
            have hlk := HL.out.kp yzk
            clear rs hset hx
            subst hv
            obtain ⟨t0, t1, t2, t3, t4, t5⟩ := t
            rcases hlk.2.2.2 with e | ⟨b, off, rfl, hb, hrow⟩
            · rw [e] at ht; simp at ht
            · have hc : ∀ c v, (Tot.cells ⟨t0, t1, t2, t3, t4, t5⟩)[c]? = some v → wr.cell? ⟨b, off + k2 * 6 + c, none⟩ = some v := fun c v hv => hrow k2 _ ht c v hv
              have c0 := hc 0 _ rfl; have c1 := hc 1 _ rfl; have c2 := hc 2 _ rfl; have c3 := hc 3 _ rfl; have c4 := hc 4 _ rfl; have c5 := hc 5 _ rfl
              rw [Nat.add_zero] at c0
              simp only at c0 c1 c2 c3 c4 c5 cx fx RS hft
              obtain ⟨hn0, hn1, hs0, hs1⟩ := hft
              have e0 := yz.cell 0 rfl
              have n1 := yz.lt
              clear hc hrow ht hlk hll
              go_wp2
              go_region
              go_wp2
              go_roundw
              case rel => exact ⟨k2 + 1, by omega, by go_num, ((RS.out _ rz).alloc _).drew, ((yz.other (a := ⟨g, k2, none⟩) (by show w.heap.size + 1 ≠ g; omega) _).alloc _).drew, ((yzk.setCell (p := ⟨g, k2, none⟩) (by show w.heap.size ≤ g; omega) _).alloc _).drew, by simp; omega⟩
              case measure => simp [intOf]; omega
          · obtain rfl : k2 = k := by omega
            have e0 := yz.cell 0 rfl
            have e : offL (natsG gl) (fun j => if j < k2 then -(nth (shrsG gl) j) else 0) = sizesL 3 s1 s2 gl := offL_congr (fun j hj => by
              rw [natsG_length, HLL.out] at hj
              rw [if_pos hj]; rfl)
            rw [e] at rz
            clear e
            go_wp2
            exact ⟨_, results_tmp rfl _ _ _, vo, rfl, rz.base k1.size, yzk⟩
      · have d0 := ys.cell 0 rfl; have d1 := ys.cell 1 rfl; have d2 := ys.cell 2 rfl; have d3 := ys.cell 3 rfl; have d4 := ys.cell 4 rfl
        have e0 := yo.cell 0 rfl
        obtain ⟨a6, cap6, rfl, sl6⟩ := r6.sl (fun _ => rfl)
        have hpf : ∀ x, x ∈ partsG 2 s1 gl → 0 ≤ x ∧ x ≤ 1125899906842624 := by
          intro x hx
          obtain ⟨t, ht, rfl⟩ := List.mem_map.1 hx
          exact partG_in (HF.out t ht)
        have HPF := Lib.hid hpf
        have hpl : (partsG 2 s1 gl).length = k := (partsG_length 2 s1 gl).trans HLL.out
        rw [hpl] at sl6 hap hb6 ⊢
        have HPL := Lib.hid hpl
        obtain ⟨pl, hpl2⟩ : ∃ pl, partsG 2 s1 gl = pl := ⟨_, rfl⟩
        have HP2 := Lib.hid hpl2
        rw [hpl2] at sl6 HPF HPL
        clear hpf hpl hpl2 r6
        go_wp2_with fail
        refine (each_any s2 a6 k cap6 _).mono ?_
        rintro e w3 ⟨rfl, hw3⟩
        go_wp2
        clear hw3
        have HSL := Lib.hid sl6
        refine named_world (F := fun W => Blk W wr.heap.size [.int .i64 (-1)] 28 ∧ Blk W (wr.heap.size + 1) [.int .i64 s2] 28 ∧ Blk W (wr.heap.size + 2) [.slice a6 k cap6] 49 ∧ Blk W (w.heap.size + 1) [vo] 49 ∧ Row W w1.heap.size 28 1 enc1 vo (natsG gl) ∧ Kp wr W ∧ wr.heap.size + 3 = W.heap.size) ⟨(by (repeat (first | with_reducible assumption | ((with_reducible refine Blk.newL ?_ ?_); (focus (first | (simp; done) | omega)); rfl) | with_reducible refine Blk.drew ?_ | with_reducible refine Blk.drewN ?_ _ | with_reducible refine Blk.alloc ?_ _ | ((with_reducible refine Blk.other ?_ ?_ _); rotate_left; (focus (first | with_reducible assumption | omega | (simp; done) | (simp; omega))))))), (by (repeat (first | with_reducible assumption | ((with_reducible refine Blk.newL ?_ ?_); (focus (first | (simp; done) | omega)); rfl) | with_reducible refine Blk.drew ?_ | with_reducible refine Blk.drewN ?_ _ | with_reducible refine Blk.alloc ?_ _ | ((with_reducible refine Blk.other ?_ ?_ _); rotate_left; (focus (first | with_reducible assumption | omega | (simp; done) | (simp; omega))))))), (by (repeat (first | with_reducible assumption | ((with_reducible refine Blk.newL ?_ ?_); (focus (first | (simp; done) | omega)); rfl) | with_reducible refine Blk.drew ?_ | with_reducible refine Blk.drewN ?_ _ | with_reducible refine Blk.alloc ?_ _ | ((with_reducible refine Blk.other ?_ ?_ _); rotate_left; (focus (first | with_reducible assumption | omega | (simp; done) | (simp; omega))))))), (by (repeat (first | with_reducible assumption | ((with_reducible refine Blk.newL ?_ ?_); (focus (first | (simp; done) | omega)); rfl) | with_reducible refine Blk.drew ?_ | with_reducible refine Blk.drewN ?_ _ | with_reducible refine Blk.alloc ?_ _ | ((with_reducible refine Blk.other ?_ ?_ _); rotate_left; (focus (first | with_reducible assumption | omega | (simp; done) | (simp; omega))))))), ro.kp (by (repeat (first | with_reducible assumption | with_reducible exact Kp.refl _ | with_reducible refine Kp.drew ?_ | with_reducible refine Kp.drewN ?_ _ | with_reducible refine Kp.alloc ?_ _ | ((with_reducible refine Kp.setCell ?_ ?_ _); rotate_left; (focus (first | omega | (simp; done) | (simp; omega)))) | with_reducible refine Kp.trans ?_ (by assumption)))), (by (repeat (first | with_reducible assumption | with_reducible exact Kp.refl _ | with_reducible refine Kp.drew ?_ | with_reducible refine Kp.drewN ?_ _ | with_reducible refine Kp.alloc ?_ _ | ((with_reducible refine Kp.setCell ?_ ?_ _); rotate_left; (focus (first | omega | (simp; done) | (simp; omega)))) | with_reducible refine Kp.trans ?_ (by assumption)))), by simp⟩ ?_
        rintro w4 ⟨bS, bW, bP, bO, ro4, k4, z4⟩
        clear d0 d1 d2 d3 d4 e0 ro yo ys xs xo sl6
        have hI2 := inF_iff.1 H2.out
        have hok : ∀ x, x ∈ pl → I64 x := fun x hx => by have := HPF.out x hx; exact ⟨by omega, by omega⟩
        have kw4 : Kp w w4 := yk.trans k4
        have hkw := k1.size
        have hnl : (natsG gl).length = k := (natsG_length gl).trans HLL.out
        have HNL := Lib.hid hnl
        by_cases hs : shOk s2 pl = true
        · have hsh : ∀ j, 0 ≤ shareAt s2 pl j ∧ shareAt s2 pl j ≤ 1125899906842624 := fun j => by have := shareAt_in hs (by omega) j; omega
          have HSH := Lib.hid hsh
          have HS := Lib.hid hs
          have hpos : 0 < k := by
            rcases Nat.eq_zero_or_pos k with e | e
            · have h1 := (shOk_iff.1 hs).2.2.2
              rw [List.eq_nil_of_length_eq_zero (HPL.out.trans e)] at h1
              simp at h1
            · exact e
          have hkb : ∀ b, eachK (wr.heap.size + 1) a6 b → vo.ownBlock ≠ some b := by
            rintro b (rfl | ⟨off, sp, rfl⟩) e
            · have := (hbo _ e).2; omega
            · rcases hap with h | h | h
              · rw [h] at e; cases e
              · cases h
              · exact h e
          have HKB := Lib.hid hkb
          clear hs hsh hkb hnl
          refine wp_rangeE (K := eachK (wr.heap.size + 1) a6) (w0 := w4) rfl (enters_of Try.func58 (by kernel_rfl) rfl)
            (each_stops 99 (by decide) (wr.heap.size + 1) (wr.heap.size + 2) s2 a6 k cap6 pl ⟨by omega, by omega⟩ hok HS.out w4 (bW.cell 0 rfl) (bP.cell 0 rfl) (HSL.out.kp k4)) (Below.refl _ _) (fun _ => rfl)
            (fun pre W => Row W w1.heap.size 28 1 enc1 vo (offL (natsG gl) (fun j => -(adds (shareAt s2 pl) pre j))) ∧ Blk W (w.heap.size + 1) [vo] 49 ∧ Blk W wr.heap.size [.int .i64 (-1)] 28 ∧ Kp w W ∧ w4.heap.size ≤ W.heap.size)
            (fun _ _ _ => False)
            (fun s A B row hs hg hr => ⟨hs.1.grown hg (fun r e => (hr r e).2), hs.2.1.grown hg (fun r e => (hr r e).2), hs.2.2.1.grown hg (fun r e => (hr r e).2), hs.2.2.2.1.grown2 hg kw4.size (fun r e => (hr r e).1), Nat.le_trans hs.2.2.2.2 hg.size⟩)
            (fun _ _ _ _ _ hs _ _ => hs)
            ⟨by rw [offL_congr (g := fun _ => 0) (fun j _ => by simp [adds]), offL_zero]; exact ro4, bO, bS, kw4, Nat.le_refl _⟩ ?frame ?done ?stop
          case frame =>
            apply Exists.intro
            refine ⟨?_, ?_⟩
            · intro lp x W K hK
              gi_wp2
              exact hK
            · rintro lp pre x W ⟨rz, yb, ysg, yk5, hz5⟩ hlt
              have hxk : x.val < k := by have := x.isLt; have := HPL.out; omega
              have hpre : pre.length < k := by have := HPL.out; omega
              obtain ⟨g, capo, hv, hg1, hg2, hg3, hg4⟩ := rz.shape (by rw [offL_length]; have := HNL.out; omega)
              rw [offL_length, HNL.out] at hv hg3
              unfold maxLen at hg4
              obtain ⟨t, ht⟩ : ∃ t, gl[x.val]? = some t := ⟨gl[x.val]'(by have := HLL.out; omega), List.getElem?_eq_getElem _⟩
              have hft := right_fld (HF.out t (List.mem_of_getElem? ht))
              have hnt : nth (natsG gl) x.val = t.nat := nth_map ht
              have hadb := adds_bounds HSH.out x.val pre
              have hsx := HSH.out x.val
              have hx : (offL (natsG gl) (fun j => -(adds (shareAt s2 pl) pre j)))[x.val]? = some (t.nat + -(adds (shareAt s2 pl) pre x.val)) := by
                rw [offL_get (by have := HNL.out; omega), hnt]
              have hset : (offL (natsG gl) (fun j => -(adds (shareAt s2 pl) pre j))).set x.val (t.nat + -(adds (shareAt s2 pl) pre x.val) + -(shareAt s2 pl x.val)) = offL (natsG gl) (fun j => -(adds (shareAt s2 pl) (pre ++ [x]) j)) := by
                refine offL_set ?_ (fun j _ hj => ?_)
                · rw [hnt, adds_snoc, if_pos rfl]; omega
                · rw [adds_snoc, if_neg (fun e => hj e.symm), Int.add_zero]
              have cx := rz.cellAt hv hx
              have fx := rz.freeAt hv x.val
              have rs := rz.setAt hv x.val (t.nat + -(adds (shareAt s2 pl) pre x.val) + -(shareAt s2 pl x.val))
              rw [hset] at rs
              obtain ⟨D, hD⟩ : ∃ D, adds (shareAt s2 pl) pre x.val = D := ⟨_, rfl⟩
              obtain ⟨S, hS⟩ : ∃ D, shareAt s2 pl x.val = D := ⟨_, rfl⟩
              obtain ⟨T, hT⟩ : ∃ D, t.nat = D := ⟨_, rfl⟩
              rw [hD, hT] at cx rs
              rw [hS] at rs hsx ⊢
              rw [hD] at hadb
              rw [hT] at hft
              have RS := Lib.hid rs
              have hgk : ∀ b, eachK (wr.heap.size + 1) a6 b → b ≠ g := fun b hb e => HKB.out b hb (by rw [hv, e]; rfl)
              have HGK := Lib.hid hgk
              have hb1 : 0 ≤ D ∧ D ≤ 5629499534213120000 := by
                have : (pre.length : Int) ≤ 5000 := by omega
                omega
              have hc := yb.cell 0 rfl
              have hc2 := ysg.cell 0 rfl
              have hgw : g < wr.heap.size := (hbo g (by rw [hv]; rfl)).2
              clear hadb hx hset rs hgk hS hD hT hnt ht rz
              subst hv
              have e1 : IntKind.i64.wrap (-S) = (-S) := by rw [IntKind.wrap_i64]; omega
              have e2 : IntKind.i64.wrap ((T + -D) + (-S)) = (T + -D) + (-S) := by rw [IntKind.wrap_i64]; omega
              have hgo : g ≠ w.heap.size + 1 := by omega
              have hgs : g ≠ wr.heap.size := by omega
              gi_wp2
              (refine wpIn_region_held_round (S := (fun w' => w'.cell? ⟨w.heap.size + 1, 0, none⟩ = some (.slice (some ⟨g, 0, none⟩) k capo) ∧ w'.cell? ⟨wr.heap.size, 0, none⟩ = some (.int .i64 (-1)))) (by kernel_rfl) (by kernel_rfl) (by first | exact not_letsOut | (rintro ⟨_, _, h⟩; exact h)) ?_ (fun hHd => ?_); (focus ((try dsimp only); exact ⟨hc, hc2⟩)))
              (refine takeH (i := 0) (oi := ?o1) (v := ?v1) ?h1 (by kernel_rfl) ?q1 (Or.inl ⟨?w1, ?y1⟩) (by assumption) ?r1; (case h1 => ((simp only [g1, g3]); rfl)); (case q1 => exact fun _ _ _ h => h); (case w1 => rfl); (case y1 => (intro w' hSw; (try dsimp only at hSw); go_simp; (try with_reducible rfl))); (try simp only [Act.put, s1, s2, s3]))
              (refine takeH (i := 1) (oi := ?o2) (v := ?v2) ?h2 (by kernel_rfl) ?q2 (Or.inl ⟨?w2, ?y2⟩) (by assumption) ?r2; (case h2 => ((simp only [g1, g2, g3]); rfl)); (case q2 => exact fun _ _ _ h => h); (case w2 => rfl); (case y2 => (intro w' hSw; (try dsimp only at hSw); go_simp; (try with_reducible rfl))); (try simp only [Act.put, s1, s2, s3]))
              (refine takeH (i := 2) (oi := ?o3) (v := ?v3) ?h3 (by kernel_rfl) ?q3 (Or.inl ⟨?w3, ?y3⟩) (by assumption) ?r3; (case h3 => ((simp only [g1, g2, g3]); rfl)); (case q3 => exact fun _ _ _ h => h); (case w3 => rfl); (case y3 => (intro w' hSw; (try dsimp only at hSw); go_simp; (try with_reducible rfl))); (try simp only [Act.put, s1, s2, s3]))
              (refine takeH (i := 4) (oi := ?o4) (v := ?v4) ?h4 (by kernel_rfl) ?q4 (Or.inl ⟨?w4, ?y4⟩) (by assumption) ?r4; (case h4 => ((simp only [g1, g2, g3]); rfl)); (case q4 => exact fun _ _ _ h => h); (case w4 => rfl); (case y4 => (intro w' hSw; (try dsimp only at hSw); go_simp; (try with_reducible rfl))); (try simp only [Act.put, s1, s2, s3]))
              (refine takeH (i := 5) (oi := ?o5) (v := ?v5) ?h5 (by kernel_rfl) ?q5 (Or.inl ⟨?w5, ?y5⟩) (by assumption) ?r5; (case h5 => ((simp only [g1, g2, g3]); rfl)); (case q5 => exact fun _ _ _ h => h); (case w5 => rfl); (case y5 => (intro w' hSw; (try dsimp only at hSw); go_simp; (try with_reducible rfl))); (try simp only [Act.put, s1, s2, s3]))
              (refine takeH (i := 6) (oi := ?o6) (v := ?v6) ?h6 (by kernel_rfl) ?q6 (Or.inl ⟨?w6, ?y6⟩) (by assumption) ?r6; (case h6 => ((simp only [g1, g2, g3]); rfl)); (case q6 => exact fun _ _ _ h => h); (case w6 => rfl); (case y6 => (intro w' hSw; (try dsimp only at hSw); go_simp; (try with_reducible rfl))); (try simp only [Act.put, s1, s2, s3]))
              (refine wpAnyH_ready (rs := [3]) (by kernel_rfl) (by simp) ?_; refine AllReadyH.cons (o := ?o7) ?h7 (fun K hK => ?s7) AllReadyH.nil; (case h7 => (first | ((simp only [g1, g2, g3]); rfl) | rfl)); go_simp; (try dsimp only); refine hK.out _ _ ?_ (fun hHd => ?_); (focus ((try dsimp only); (first | with_reducible assumption | with_reducible exact held_next (by assumption) (by assumption) | with_reducible exact held_alloc (by assumption) _))); clear hK K; (try simp only [Act.put, s1, s2, s3]))
              (refine takeH (i := 7) (oi := ?o8) (v := ?v8) ?h8 (by kernel_rfl) ?q8 (Or.inl ⟨?w8, ?y8⟩) (by assumption) ?r8; (case h8 => ((simp only [g1, g2, g3]); rfl)); (case q8 => exact fun _ _ _ h => h); (case w8 => rfl); (case y8 => (intro w' hSw; (try dsimp only at hSw); go_simp; (try with_reducible rfl))); (try simp only [Act.put, s1, s2, s3]))
              (refine takeH (i := 8) (oi := ?o9) (v := ?v9) ?h9 (by kernel_rfl) ?q9 (Or.inl ⟨?w9, ?y9⟩) (by assumption) ?r9; (case h9 => ((simp only [g1, g2, g3]); rfl)); (case q9 => exact fun _ _ _ h => h); (case w9 => rfl); (case y9 => (intro w' hSw; (try dsimp only at hSw); go_simp; (try with_reducible rfl))); (try simp only [Act.put, s1, s2, s3]))
              (refine wpAnyH_ready (rs := [9]) (by kernel_rfl) (by simp) ?_; refine AllReadyH.cons (o := ?o10) ?h10 (fun K hK => ?s10) AllReadyH.nil; (case h10 => (first | ((simp only [g1, g2, g3]); rfl) | rfl)); go_simp; (try dsimp only); refine hK.out _ _ ?_ (fun hHd => ?_); (focus ((try dsimp only); exact ⟨(cell_heap (Below.heap_setCell _ _ _ _ (Ne.symm hgo))).trans hc, (cell_heap (Below.heap_setCell _ _ _ _ (Ne.symm hgs))).trans hc2⟩)); clear hK K; (try simp only [Act.put, s1, s2, s3]))
              refine wpAnyH_done (by kernel_rfl) ?_ _
              exact ⟨(KeepsOthers.setCell _ _ _).trans (KeepsOthers.drew _), (CK.setAt W (p := ⟨g, x.val, none⟩) HGK.out _).drew, RS.out.drew, (yb.other (a := ⟨g, x.val, none⟩) (Ne.symm hgo) _).drew, (ysg.other (a := ⟨g, x.val, none⟩) (Ne.symm hgs) _).drew, (yk5.setCell (p := ⟨g, x.val, none⟩) (by show w.heap.size ≤ g; omega) _).drew, by simpa using hz5⟩
          case done =>
            rintro D xs W hD rfl ⟨rz, yb, ysg, yk5, hz5⟩ hK
            have hc := yb.cell 0 rfl
            have e : offL (natsG gl) (fun j => -(adds (shareAt s2 pl) (firsts pl.length pl.length) j)) = sizesL 2 s1 s2 gl := by
              unfold sizesL
              rw [HP2.out]
              refine offL_congr (fun j hj => ?_)
              rw [adds_firsts _ j _ (Nat.le_refl _), if_pos (by have := HPL.out; have := HNL.out; omega)]
              unfold addG shG
              rw [if_pos HS.out]
              rfl
            rw [e] at rz
            clear e
            go_wp2
            refine ⟨by simp, .inl ⟨_, _, rfl, run_takeDeferred hK, ?_⟩⟩
            exact ⟨_, results_tmp rfl _ _ _, vo, rfl, (rz.base k1.size).grown (grownBy_putObj' W D (.deferred none)) (fun r e => by cases e; exact ⟨_, hK, rfl⟩), yk5.mark _ (by have := kw4.size; omega) hK⟩
          case stop =>
            rintro D c pre W _ _ h _
            exact h.elim
        · have hs' : shOk s2 pl = false := by cases h : shOk s2 pl <;> simp_all
          have HS := Lib.hid hs'
          clear hs hs' hnl
          refine wp_rangeE (K := eachK (wr.heap.size + 1) a6) (w0 := w4) rfl (enters_of Try.func58 (by kernel_rfl) rfl)
            (each_none 99 (by decide) (wr.heap.size + 1) (wr.heap.size + 2) s2 a6 k cap6 pl hok HS.out w4 (bW.cell 0 rfl) (bP.cell 0 rfl) (HSL.out.kp k4)) (Below.refl _ _) (fun _ => rfl)
            (fun pre W => Row W w1.heap.size 28 1 enc1 vo (natsG gl) ∧ Blk W (w.heap.size + 1) [vo] 49 ∧ Kp w W ∧ w4.heap.size ≤ W.heap.size)
            (fun _ _ _ => False)
            (fun s A B row hs hg hr => ⟨hs.1.grown hg (fun r e => (hr r e).2), hs.2.1.grown hg (fun r e => (hr r e).2), hs.2.2.1.grown2 hg kw4.size (fun r e => (hr r e).1), Nat.le_trans hs.2.2.2 hg.size⟩)
            (fun _ _ _ _ _ hs _ _ => hs)
            ⟨ro4, bO, kw4, Nat.le_refl _⟩ ?frame ?done ?stop
          case frame =>
            apply Exists.intro
            refine ⟨?_, ?_⟩
            · intro lp x W K hK
              gi_wp2
              exact hK
            · intro lp pre x W _ hlt
              exact absurd hlt (Nat.not_lt_zero _)
          case done =>
            rintro D xs W hD rfl ⟨rz, yb, yk5, hz5⟩ hK
            have hc := yb.cell 0 rfl
            have e : natsG gl = sizesL 2 s1 s2 gl := by
              unfold sizesL
              rw [HP2.out]
              refine ((offL_congr (fun j _ => ?_)).trans (offL_zero _)).symm
              unfold addG shG
              rw [HS.out]
              rfl
            rw [e] at rz
            clear e
            go_wp2
            refine ⟨by simp, .inl ⟨_, _, rfl, run_takeDeferred hK, ?_⟩⟩
            exact ⟨_, results_tmp rfl _ _ _, vo, rfl, (rz.base k1.size).grown (grownBy_putObj' W D (.deferred none)) (fun r e => by cases e; exact ⟨_, hK, rfl⟩), yk5.mark _ (by have := kw4.size; omega) hK⟩
          case stop =>
            rintro D c pre W _ _ h _
            exact h.elim
      · have d0 := ys.cell 0 rfl; have d1 := ys.cell 1 rfl; have d2 := ys.cell 2 rfl; have d3 := ys.cell 3 rfl; have d4 := ys.cell 4 rfl
        have e0 := yo.cell 0 rfl
        obtain ⟨a6, cap6, rfl, sl6⟩ := r6.sl (fun _ => rfl)
        have hpf : ∀ x, x ∈ partsG 1 s1 gl → 0 ≤ x ∧ x ≤ 1125899906842624 := by
          intro x hx
          obtain ⟨t, ht, rfl⟩ := List.mem_map.1 hx
          exact partG_in (HF.out t ht)
        have HPF := Lib.hid hpf
        have hpl : (partsG 1 s1 gl).length = k := (partsG_length 1 s1 gl).trans HLL.out
        rw [hpl] at sl6 hap hb6 ⊢
        have HPL := Lib.hid hpl
        obtain ⟨pl, hpl2⟩ : ∃ pl, partsG 1 s1 gl = pl := ⟨_, rfl⟩
        have HP2 := Lib.hid hpl2
        rw [hpl2] at sl6 HPF HPL
        clear hpf hpl hpl2 r6
        go_wp2_with fail
        refine (each_any s2 a6 k cap6 _).mono ?_
        rintro e w3 ⟨rfl, hw3⟩
        go_wp2
        clear hw3
        have HSL := Lib.hid sl6
        refine named_world (F := fun W => Blk W wr.heap.size [.int .i64 (1)] 28 ∧ Blk W (wr.heap.size + 1) [.int .i64 s2] 28 ∧ Blk W (wr.heap.size + 2) [.slice a6 k cap6] 49 ∧ Blk W (w.heap.size + 1) [vo] 49 ∧ Row W w1.heap.size 28 1 enc1 vo (natsG gl) ∧ Kp wr W ∧ wr.heap.size + 3 = W.heap.size) ⟨(by (repeat (first | with_reducible assumption | ((with_reducible refine Blk.newL ?_ ?_); (focus (first | (simp; done) | omega)); rfl) | with_reducible refine Blk.drew ?_ | with_reducible refine Blk.drewN ?_ _ | with_reducible refine Blk.alloc ?_ _ | ((with_reducible refine Blk.other ?_ ?_ _); rotate_left; (focus (first | with_reducible assumption | omega | (simp; done) | (simp; omega))))))), (by (repeat (first | with_reducible assumption | ((with_reducible refine Blk.newL ?_ ?_); (focus (first | (simp; done) | omega)); rfl) | with_reducible refine Blk.drew ?_ | with_reducible refine Blk.drewN ?_ _ | with_reducible refine Blk.alloc ?_ _ | ((with_reducible refine Blk.other ?_ ?_ _); rotate_left; (focus (first | with_reducible assumption | omega | (simp; done) | (simp; omega))))))), (by (repeat (first | with_reducible assumption | ((with_reducible refine Blk.newL ?_ ?_); (focus (first | (simp; done) | omega)); rfl) | with_reducible refine Blk.drew ?_ | with_reducible refine Blk.drewN ?_ _ | with_reducible refine Blk.alloc ?_ _ | ((with_reducible refine Blk.other ?_ ?_ _); rotate_left; (focus (first | with_reducible assumption | omega | (simp; done) | (simp; omega))))))), (by (repeat (first | with_reducible assumption | ((with_reducible refine Blk.newL ?_ ?_); (focus (first | (simp; done) | omega)); rfl) | with_reducible refine Blk.drew ?_ | with_reducible refine Blk.drewN ?_ _ | with_reducible refine Blk.alloc ?_ _ | ((with_reducible refine Blk.other ?_ ?_ _); rotate_left; (focus (first | with_reducible assumption | omega | (simp; done) | (simp; omega))))))), ro.kp (by (repeat (first | with_reducible assumption | with_reducible exact Kp.refl _ | with_reducible refine Kp.drew ?_ | with_reducible refine Kp.drewN ?_ _ | with_reducible refine Kp.alloc ?_ _ | ((with_reducible refine Kp.setCell ?_ ?_ _); rotate_left; (focus (first | omega | (simp; done) | (simp; omega)))) | with_reducible refine Kp.trans ?_ (by assumption)))), (by (repeat (first | with_reducible assumption | with_reducible exact Kp.refl _ | with_reducible refine Kp.drew ?_ | with_reducible refine Kp.drewN ?_ _ | with_reducible refine Kp.alloc ?_ _ | ((with_reducible refine Kp.setCell ?_ ?_ _); rotate_left; (focus (first | omega | (simp; done) | (simp; omega)))) | with_reducible refine Kp.trans ?_ (by assumption)))), by simp⟩ ?_
        rintro w4 ⟨bS, bW, bP, bO, ro4, k4, z4⟩
        clear d0 d1 d2 d3 d4 e0 ro yo ys xs xo sl6
        have hI2 := inF_iff.1 H2.out
        have hok : ∀ x, x ∈ pl → I64 x := fun x hx => by have := HPF.out x hx; exact ⟨by omega, by omega⟩
        have kw4 : Kp w w4 := yk.trans k4
        have hkw := k1.size
        have hnl : (natsG gl).length = k := (natsG_length gl).trans HLL.out
        have HNL := Lib.hid hnl
        by_cases hs : shOk s2 pl = true
        · have hsh : ∀ j, 0 ≤ shareAt s2 pl j ∧ shareAt s2 pl j ≤ 1125899906842624 := fun j => by have := shareAt_in hs (by omega) j; omega
          have HSH := Lib.hid hsh
          have HS := Lib.hid hs
          have hpos : 0 < k := by
            rcases Nat.eq_zero_or_pos k with e | e
            · have h1 := (shOk_iff.1 hs).2.2.2
              rw [List.eq_nil_of_length_eq_zero (HPL.out.trans e)] at h1
              simp at h1
            · exact e
          have hkb : ∀ b, eachK (wr.heap.size + 1) a6 b → vo.ownBlock ≠ some b := by
            rintro b (rfl | ⟨off, sp, rfl⟩) e
            · have := (hbo _ e).2; omega
            · rcases hap with h | h | h
              · rw [h] at e; cases e
              · cases h
              · exact h e
          have HKB := Lib.hid hkb
          clear hs hsh hkb hnl
          refine wp_rangeE (K := eachK (wr.heap.size + 1) a6) (w0 := w4) rfl (enters_of Try.func58 (by kernel_rfl) rfl)
            (each_stops 99 (by decide) (wr.heap.size + 1) (wr.heap.size + 2) s2 a6 k cap6 pl ⟨by omega, by omega⟩ hok HS.out w4 (bW.cell 0 rfl) (bP.cell 0 rfl) (HSL.out.kp k4)) (Below.refl _ _) (fun _ => rfl)
            (fun pre W => Row W w1.heap.size 28 1 enc1 vo (offL (natsG gl) (fun j => (adds (shareAt s2 pl) pre j))) ∧ Blk W (w.heap.size + 1) [vo] 49 ∧ Blk W wr.heap.size [.int .i64 (1)] 28 ∧ Kp w W ∧ w4.heap.size ≤ W.heap.size)
            (fun _ _ _ => False)
            (fun s A B row hs hg hr => ⟨hs.1.grown hg (fun r e => (hr r e).2), hs.2.1.grown hg (fun r e => (hr r e).2), hs.2.2.1.grown hg (fun r e => (hr r e).2), hs.2.2.2.1.grown2 hg kw4.size (fun r e => (hr r e).1), Nat.le_trans hs.2.2.2.2 hg.size⟩)
            (fun _ _ _ _ _ hs _ _ => hs)
            ⟨by rw [offL_congr (g := fun _ => 0) (fun j _ => by simp [adds]), offL_zero]; exact ro4, bO, bS, kw4, Nat.le_refl _⟩ ?frame ?done ?stop
          case frame =>
            apply Exists.intro
            refine ⟨?_, ?_⟩
            · intro lp x W K hK
              gi_wp2
              exact hK
            · rintro lp pre x W ⟨rz, yb, ysg, yk5, hz5⟩ hlt
              have hxk : x.val < k := by have := x.isLt; have := HPL.out; omega
              have hpre : pre.length < k := by have := HPL.out; omega
              obtain ⟨g, capo, hv, hg1, hg2, hg3, hg4⟩ := rz.shape (by rw [offL_length]; have := HNL.out; omega)
              rw [offL_length, HNL.out] at hv hg3
              unfold maxLen at hg4
              obtain ⟨t, ht⟩ : ∃ t, gl[x.val]? = some t := ⟨gl[x.val]'(by have := HLL.out; omega), List.getElem?_eq_getElem _⟩
              have hft := right_fld (HF.out t (List.mem_of_getElem? ht))
              have hnt : nth (natsG gl) x.val = t.nat := nth_map ht
              have hadb := adds_bounds HSH.out x.val pre
              have hsx := HSH.out x.val
              have hx : (offL (natsG gl) (fun j => (adds (shareAt s2 pl) pre j)))[x.val]? = some (t.nat + (adds (shareAt s2 pl) pre x.val)) := by
                rw [offL_get (by have := HNL.out; omega), hnt]
              have hset : (offL (natsG gl) (fun j => (adds (shareAt s2 pl) pre j))).set x.val (t.nat + (adds (shareAt s2 pl) pre x.val) + (shareAt s2 pl x.val)) = offL (natsG gl) (fun j => (adds (shareAt s2 pl) (pre ++ [x]) j)) := by
                refine offL_set ?_ (fun j _ hj => ?_)
                · rw [hnt, adds_snoc, if_pos rfl]; omega
                · rw [adds_snoc, if_neg (fun e => hj e.symm), Int.add_zero]
              have cx := rz.cellAt hv hx
              have fx := rz.freeAt hv x.val
              have rs := rz.setAt hv x.val (t.nat + (adds (shareAt s2 pl) pre x.val) + (shareAt s2 pl x.val))
              rw [hset] at rs
              obtain ⟨D, hD⟩ : ∃ D, adds (shareAt s2 pl) pre x.val = D := ⟨_, rfl⟩
              obtain ⟨S, hS⟩ : ∃ D, shareAt s2 pl x.val = D := ⟨_, rfl⟩
              obtain ⟨T, hT⟩ : ∃ D, t.nat = D := ⟨_, rfl⟩
              rw [hD, hT] at cx rs
              rw [hS] at rs hsx ⊢
              rw [hD] at hadb
              rw [hT] at hft
              have RS := Lib.hid rs
              have hgk : ∀ b, eachK (wr.heap.size + 1) a6 b → b ≠ g := fun b hb e => HKB.out b hb (by rw [hv, e]; rfl)
              have HGK := Lib.hid hgk
              have hb1 : 0 ≤ D ∧ D ≤ 5629499534213120000 := by
                have : (pre.length : Int) ≤ 5000 := by omega
                omega
              have hc := yb.cell 0 rfl
              have hc2 := ysg.cell 0 rfl
              have hgw : g < wr.heap.size := (hbo g (by rw [hv]; rfl)).2
              clear hadb hx hset rs hgk hS hD hT hnt ht rz
              subst hv
              have e1 : IntKind.i64.wrap S = S := by rw [IntKind.wrap_i64]; omega
              have e2 : IntKind.i64.wrap ((T + D) + S) = (T + D) + S := by rw [IntKind.wrap_i64]; omega
              have hgo : g ≠ w.heap.size + 1 := by omega
              have hgs : g ≠ wr.heap.size := by omega
              gi_wp2
              (refine wpIn_region_held_round (S := (fun w' => w'.cell? ⟨w.heap.size + 1, 0, none⟩ = some (.slice (some ⟨g, 0, none⟩) k capo) ∧ w'.cell? ⟨wr.heap.size, 0, none⟩ = some (.int .i64 (1)))) (by kernel_rfl) (by kernel_rfl) (by first | exact not_letsOut | (rintro ⟨_, _, h⟩; exact h)) ?_ (fun hHd => ?_); (focus ((try dsimp only); exact ⟨hc, hc2⟩)))
              (refine takeH (i := 0) (oi := ?o11) (v := ?v11) ?h11 (by kernel_rfl) ?q11 (Or.inl ⟨?w11, ?y11⟩) (by assumption) ?r11; (case h11 => ((simp only [g1, g3]); rfl)); (case q11 => exact fun _ _ _ h => h); (case w11 => rfl); (case y11 => (intro w' hSw; (try dsimp only at hSw); go_simp; (try with_reducible rfl))); (try simp only [Act.put, s1, s2, s3]))
              (refine takeH (i := 1) (oi := ?o12) (v := ?v12) ?h12 (by kernel_rfl) ?q12 (Or.inl ⟨?w12, ?y12⟩) (by assumption) ?r12; (case h12 => ((simp only [g1, g2, g3]); rfl)); (case q12 => exact fun _ _ _ h => h); (case w12 => rfl); (case y12 => (intro w' hSw; (try dsimp only at hSw); go_simp; (try with_reducible rfl))); (try simp only [Act.put, s1, s2, s3]))
              (refine takeH (i := 2) (oi := ?o13) (v := ?v13) ?h13 (by kernel_rfl) ?q13 (Or.inl ⟨?w13, ?y13⟩) (by assumption) ?r13; (case h13 => ((simp only [g1, g2, g3]); rfl)); (case q13 => exact fun _ _ _ h => h); (case w13 => rfl); (case y13 => (intro w' hSw; (try dsimp only at hSw); go_simp; (try with_reducible rfl))); (try simp only [Act.put, s1, s2, s3]))
              (refine takeH (i := 4) (oi := ?o14) (v := ?v14) ?h14 (by kernel_rfl) ?q14 (Or.inl ⟨?w14, ?y14⟩) (by assumption) ?r14; (case h14 => ((simp only [g1, g2, g3]); rfl)); (case q14 => exact fun _ _ _ h => h); (case w14 => rfl); (case y14 => (intro w' hSw; (try dsimp only at hSw); go_simp; (try with_reducible rfl))); (try simp only [Act.put, s1, s2, s3]))
              (refine takeH (i := 5) (oi := ?o15) (v := ?v15) ?h15 (by kernel_rfl) ?q15 (Or.inl ⟨?w15, ?y15⟩) (by assumption) ?r15; (case h15 => ((simp only [g1, g2, g3]); rfl)); (case q15 => exact fun _ _ _ h => h); (case w15 => rfl); (case y15 => (intro w' hSw; (try dsimp only at hSw); go_simp; (try with_reducible rfl))); (try simp only [Act.put, s1, s2, s3]))
              (refine takeH (i := 6) (oi := ?o16) (v := ?v16) ?h16 (by kernel_rfl) ?q16 (Or.inl ⟨?w16, ?y16⟩) (by assumption) ?r16; (case h16 => ((simp only [g1, g2, g3]); rfl)); (case q16 => exact fun _ _ _ h => h); (case w16 => rfl); (case y16 => (intro w' hSw; (try dsimp only at hSw); go_simp; (try with_reducible rfl))); (try simp only [Act.put, s1, s2, s3]))
              (refine wpAnyH_ready (rs := [3]) (by kernel_rfl) (by simp) ?_; refine AllReadyH.cons (o := ?o17) ?h17 (fun K hK => ?s17) AllReadyH.nil; (case h17 => (first | ((simp only [g1, g2, g3]); rfl) | rfl)); go_simp; (try dsimp only); refine hK.out _ _ ?_ (fun hHd => ?_); (focus ((try dsimp only); (first | with_reducible assumption | with_reducible exact held_next (by assumption) (by assumption) | with_reducible exact held_alloc (by assumption) _))); clear hK K; (try simp only [Act.put, s1, s2, s3]))
              (refine takeH (i := 7) (oi := ?o18) (v := ?v18) ?h18 (by kernel_rfl) ?q18 (Or.inl ⟨?w18, ?y18⟩) (by assumption) ?r18; (case h18 => ((simp only [g1, g2, g3]); rfl)); (case q18 => exact fun _ _ _ h => h); (case w18 => rfl); (case y18 => (intro w' hSw; (try dsimp only at hSw); go_simp; (try with_reducible rfl))); (try simp only [Act.put, s1, s2, s3]))
              (refine takeH (i := 8) (oi := ?o19) (v := ?v19) ?h19 (by kernel_rfl) ?q19 (Or.inl ⟨?w19, ?y19⟩) (by assumption) ?r19; (case h19 => ((simp only [g1, g2, g3]); rfl)); (case q19 => exact fun _ _ _ h => h); (case w19 => rfl); (case y19 => (intro w' hSw; (try dsimp only at hSw); go_simp; (try with_reducible rfl))); (try simp only [Act.put, s1, s2, s3]))
              (refine wpAnyH_ready (rs := [9]) (by kernel_rfl) (by simp) ?_; refine AllReadyH.cons (o := ?o20) ?h20 (fun K hK => ?s20) AllReadyH.nil; (case h20 => (first | ((simp only [g1, g2, g3]); rfl) | rfl)); go_simp; (try dsimp only); refine hK.out _ _ ?_ (fun hHd => ?_); (focus ((try dsimp only); exact ⟨(cell_heap (Below.heap_setCell _ _ _ _ (Ne.symm hgo))).trans hc, (cell_heap (Below.heap_setCell _ _ _ _ (Ne.symm hgs))).trans hc2⟩)); clear hK K; (try simp only [Act.put, s1, s2, s3]))
              refine wpAnyH_done (by kernel_rfl) ?_ _
              exact ⟨(KeepsOthers.setCell _ _ _).trans (KeepsOthers.drew _), (CK.setAt W (p := ⟨g, x.val, none⟩) HGK.out _).drew, RS.out.drew, (yb.other (a := ⟨g, x.val, none⟩) (Ne.symm hgo) _).drew, (ysg.other (a := ⟨g, x.val, none⟩) (Ne.symm hgs) _).drew, (yk5.setCell (p := ⟨g, x.val, none⟩) (by show w.heap.size ≤ g; omega) _).drew, by simpa using hz5⟩
          case done =>
            rintro D xs W hD rfl ⟨rz, yb, ysg, yk5, hz5⟩ hK
            have hc := yb.cell 0 rfl
            have e : offL (natsG gl) (fun j => (adds (shareAt s2 pl) (firsts pl.length pl.length) j)) = sizesL 1 s1 s2 gl := by
              unfold sizesL
              rw [HP2.out]
              refine offL_congr (fun j hj => ?_)
              rw [adds_firsts _ j _ (Nat.le_refl _), if_pos (by have := HPL.out; have := HNL.out; omega)]
              unfold addG shG
              rw [if_pos HS.out]
              rfl
            rw [e] at rz
            clear e
            go_wp2
            refine ⟨by simp, .inl ⟨_, _, rfl, run_takeDeferred hK, ?_⟩⟩
            exact ⟨_, results_tmp rfl _ _ _, vo, rfl, (rz.base k1.size).grown (grownBy_putObj' W D (.deferred none)) (fun r e => by cases e; exact ⟨_, hK, rfl⟩), yk5.mark _ (by have := kw4.size; omega) hK⟩
          case stop =>
            rintro D c pre W _ _ h _
            exact h.elim
        · have hs' : shOk s2 pl = false := by cases h : shOk s2 pl <;> simp_all
          have HS := Lib.hid hs'
          clear hs hs' hnl
          refine wp_rangeE (K := eachK (wr.heap.size + 1) a6) (w0 := w4) rfl (enters_of Try.func58 (by kernel_rfl) rfl)
            (each_none 99 (by decide) (wr.heap.size + 1) (wr.heap.size + 2) s2 a6 k cap6 pl hok HS.out w4 (bW.cell 0 rfl) (bP.cell 0 rfl) (HSL.out.kp k4)) (Below.refl _ _) (fun _ => rfl)
            (fun pre W => Row W w1.heap.size 28 1 enc1 vo (natsG gl) ∧ Blk W (w.heap.size + 1) [vo] 49 ∧ Kp w W ∧ w4.heap.size ≤ W.heap.size)
            (fun _ _ _ => False)
            (fun s A B row hs hg hr => ⟨hs.1.grown hg (fun r e => (hr r e).2), hs.2.1.grown hg (fun r e => (hr r e).2), hs.2.2.1.grown2 hg kw4.size (fun r e => (hr r e).1), Nat.le_trans hs.2.2.2 hg.size⟩)
            (fun _ _ _ _ _ hs _ _ => hs)
            ⟨ro4, bO, kw4, Nat.le_refl _⟩ ?frame ?done ?stop
          case frame =>
            apply Exists.intro
            refine ⟨?_, ?_⟩
            · intro lp x W K hK
              gi_wp2
              exact hK
            · intro lp pre x W _ hlt
              exact absurd hlt (Nat.not_lt_zero _)
          case done =>
            rintro D xs W hD rfl ⟨rz, yb, yk5, hz5⟩ hK
            have hc := yb.cell 0 rfl
            have e : natsG gl = sizesL 1 s1 s2 gl := by
              unfold sizesL
              rw [HP2.out]
              refine ((offL_congr (fun j _ => ?_)).trans (offL_zero _)).symm
              unfold addG shG
              rw [HS.out]
              rfl
            rw [e] at rz
            clear e
            go_wp2
            refine ⟨by simp, .inl ⟨_, _, rfl, run_takeDeferred hK, ?_⟩⟩
            exact ⟨_, results_tmp rfl _ _ _, vo, rfl, (rz.base k1.size).grown (grownBy_putObj' W D (.deferred none)) (fun r e => by cases e; exact ⟨_, hK, rfl⟩), yk5.mark _ (by have := kw4.size; omega) hK⟩
          case stop =>
            rintro D c pre W _ _ h _
            exact h.elim
end Go.Proofs.Yteipfamaclildaa
