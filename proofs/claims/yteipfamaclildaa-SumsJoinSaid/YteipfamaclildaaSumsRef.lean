/- The document's answers about pieces of a list: the walks. -/
import Derived.Test.YteipfamaclildaaSumsGl

namespace Go.Proofs.Yteipfamaclildaa

open Go.RowKit

theorem piece_pc (l : List Item) (x y : Int) : pc l x y l.length = piece l x y := pc_all l x y

set_option maxRecDepth 100000 in
set_option maxHeartbeats 4000000 in
theorem refGlues_any (a : Option Addr) (cap : Nat) (l : List Item) (x y : Int) (w : World) (hl : SlOk w 7 Item.cells a l.length cap l) (h4 : l.length ≤ 4096) :
    Calls Try.prog 19 #[.slice a l.length cap, .int .i64 x, .int .i64 y] w fun e w' => ∃ v, e = .returned v ∧ Row w' w.heap.size 31 6 Tot.cells6 v (glues (piece l x y)) ∧ Kp w w' := by
  go_enter Try.func19, Try.ntmps19
  go_wp2
  go_loopw [7, 8] (fun v7 v8 wr => ∃ (k : Nat), k ≤ l.length ∧ v8 = .int .i64 k ∧ Row wr w.heap.size 31 6 Tot.cells6 v7 (glues (pc l x y k)) ∧ Kp w wr) (fun _ v8 _ => l.length - (intOf v8).toNat)
  case atStart => exact ⟨0, by omega, rfl, by rw [pc_zero]; exact Row.nil _ _ _ _ _, (by (repeat (first | with_reducible assumption | with_reducible exact Kp.refl _ | with_reducible refine Kp.drew ?_ | with_reducible refine Kp.drewN ?_ _ | with_reducible refine Kp.alloc ?_ _ | ((with_reducible refine Kp.setCell ?_ ?_ _); rotate_left; (focus (first | omega | (simp; done) | (simp; omega)))) | with_reducible refine Kp.trans ?_ (by assumption))))⟩
  case round =>
    obtain ⟨k, hk, rfl, xr, xk⟩ := hrel
    by_cases hlt : k < l.length
    · obtain ⟨y', hy⟩ : ∃ y, l[k]? = some y := ⟨l[k]'hlt, List.getElem?_eq_getElem _⟩
      rcases hl.2.2.2 with e | ⟨b, off, rfl, hb, hrow⟩
      · exact absurd (by rw [e]; rfl) (Nat.ne_of_gt (Nat.lt_of_le_of_lt (Nat.zero_le k) hlt))
      · obtain ⟨x0, x1, x2, x3, x4, x5, x6⟩ := y'
        have hc : ∀ c v, (Item.cells ⟨x0, x1, x2, x3, x4, x5, x6⟩)[c]? = some v → wr.cell? ⟨b, off + k * 7 + c, none⟩ = some v := fun c v hv => (xk.cell (p := ⟨b, off + k * 7 + c, none⟩) hb).trans (hrow k _ hy c v hv)
        have c0 := hc 0 _ rfl; have c1 := hc 1 _ rfl; have c2 := hc 2 _ rfl; have c3 := hc 3 _ rfl; have c4 := hc 4 _ rfl; have c5 := hc 5 _ rfl; have c6 := hc 6 _ rfl
        rw [Nat.add_zero] at c0
        by_cases hin : x ≤ k ∧ (k : Int) < y
        · have hpc := pc_in hin.1 hin.2 hy
          have hgs := glues_snoc (pc l x y k) ⟨x0, x1, x2, x3, x4, x5, x6⟩
          rw [← hpc] at hgs
          have hgl := glues_length (pc l x y k)
          have hpl : (pc l x y k).length ≤ k := by unfold pc; rw [List.length_drop, List.length_take]; omega
          have cT := refItemTot_any ⟨x0, x1, x2, x3, x4, x5, x6⟩
          obtain ⟨⟨t0, t1, t2, t3, t4, t5⟩, ht⟩ : ∃ t, totI ⟨x0, x1, x2, x3, x4, x5, x6⟩ = t := ⟨_, rfl⟩
          rw [ht] at cT hgs
          simp only [Item.v, Tot.v] at cT hgs
          obtain ⟨j1, j2⟩ := hin
          have HGS := Lib.hid hgs
          have HGL : Hid ((glues (pc l x y k)).length + 1 ≤ 5000) := Lib.hid (by omega)
          clear hc hgs hgl hpl hpc hy hrow
          by_cases h2 : x0 = 2
          · subst h2
            have hgs := HGS.out
            rw [if_pos rfl] at hgs
            have HG2 := Lib.hid hgs
            clear hgs HGS
            go_wp2_with fail
            refine (cT _).mono ?_
            rintro e w3 ⟨rfl, kk⟩
            have yr := xr.kp kk
            have yk := xk.trans kk
            have zr := yr.alloc (.cells #[.int .i64 t0, .int .i64 t1, .int .i64 t2, .int .i64 t3, .int .i64 t4, .int .i64 t5] 31)
            have hbk := Blk.new w3 (Tot.cells6 ⟨t0, t1, t2, t3, t4, t5⟩) 31
            have zk := yk.alloc (.cells #[.int .i64 t0, .int .i64 t1, .int .i64 t2, .int .i64 t3, .int .i64 t4, .int .i64 t5] 31)
            clear c0 c1 c2 c3 c4 c5 c6 cT kk xr yr
            go_wp2_with (first
              | (refine rowAppend ?gd (.tmp 31) (.tmp 37) 35 ?ho Try.underlying35 infoTotal rfl (by decide) zr ?hs (y := ⟨t0, t1, t2, t3, t4, t5⟩) rfl ?h1 hbk ?hx ?hl ?hb ?hz ?_; (case gd => rfl); (case ho => rfl); (case hs => rfl); (case h1 => simp [Tot.cells6, Value.oneCell']); (case hx => rfl); (case hl => have := HGL.out; unfold maxLen; omega); (case hb => have := HGL.out; omega); (case hz => exact zk.size))
              | fail)
            intro v' w4 hr4 kp4 oth4 sz4 hne
            have k4 := kp4 (Nat.le_refl _) zk
            rw [← HG2.out] at hr4
            go_wp2
            go_roundw
            case rel => exact ⟨k + 1, by omega, by go_num, hr4, k4⟩
            case measure => simp [intOf]; omega
          · have hgs := HGS.out
            rw [if_neg h2] at hgs
            have HG2 := Lib.hid hgs
            have h21 : (x0 == 2) = false := beq_eq_false_iff_ne.2 h2
            clear hgs HGS cT
            go_wp2
            go_roundw
            case rel => exact ⟨k + 1, by omega, by go_num, by rw [HG2.out]; exact xr, xk⟩
            case measure => simp [intOf]; omega
        · have hpc := pc_out (l := l) hin
          have HPC := Lib.hid hpc
          clear hpc hc
          by_cases hx1 : x ≤ k
          · have hy1 : decide ((k : Int) < y) = false := decide_eq_false (by omega)
            go_wp2
            go_roundw
            case rel => exact ⟨k + 1, by omega, by go_num, by rw [HPC.out]; exact xr, xk⟩
            case measure => simp [intOf]; omega
          · have hx2 : decide (x ≤ (k : Int)) = false := decide_eq_false hx1
            go_wp2
            go_roundw
            case rel => exact ⟨k + 1, by omega, by go_num, by rw [HPC.out]; exact xr, xk⟩
            case measure => simp [intOf]; omega
    · obtain rfl : k = l.length := by omega
      rw [piece_pc] at xr
      go_wp2
      go_ret
      exact ⟨_, rfl, xr, xk⟩

theorem pc_fair {l : List Item} (h : fairL l = true) (x y : Int) (k : Nat) : fairL (pc l x y k) = true := by
  unfold pc; exact fairL_drop (fairL_take h _) _
theorem pc_len (l : List Item) (x y : Int) (k : Nat) : (pc l x y k).length ≤ l.length := by
  unfold pc; rw [List.length_drop, List.length_take]; omega
set_option maxRecDepth 100000 in
set_option maxHeartbeats 4000000 in
theorem refBoxes_any (a : Option Addr) (cap : Nat) (l : List Item) (x y : Int) (w : World) (hl : SlOk w 7 Item.cells a l.length cap l) (h4 : l.length ≤ 4096) (hf : fairL l = true) :
    Calls Try.prog 21 #[.slice a l.length cap, .int .i64 x, .int .i64 y] w fun e w' => e = .returned (.int .i64 (bsum (piece l x y))) ∧ Kp w w' := by
  have HF := Lib.hid hf
  clear hf
  go_enter Try.func21, Try.ntmps21
  go_wp2
  go_loopw [7, 8] (fun v7 v8 wr => ∃ (k : Nat) (s : Int), k ≤ l.length ∧ v8 = .int .i64 k ∧ v7 = .int .i64 s ∧ Hid (s = bsum (pc l x y k)) ∧ Kp w wr) (fun _ v8 _ => l.length - (intOf v8).toNat)
  case atStart => exact ⟨0, 0, by omega, rfl, rfl, Lib.hid (by rw [pc_zero]; rfl), (by (repeat (first | with_reducible assumption | with_reducible exact Kp.refl _ | with_reducible refine Kp.drew ?_ | with_reducible refine Kp.drewN ?_ _ | with_reducible refine Kp.alloc ?_ _ | ((with_reducible refine Kp.setCell ?_ ?_ _); rotate_left; (focus (first | omega | (simp; done) | (simp; omega)))) | with_reducible refine Kp.trans ?_ (by assumption))))⟩
  case round =>
    obtain ⟨k, s, hk, rfl, rfl, hs, xk⟩ := hrel
    by_cases hlt : k < l.length
    · obtain ⟨y', hy⟩ : ∃ y, l[k]? = some y := ⟨l[k]'hlt, List.getElem?_eq_getElem _⟩
      rcases hl.2.2.2 with e | ⟨b, off, rfl, hb, hrow⟩
      · exact absurd (by rw [e]; rfl) (Nat.ne_of_gt (Nat.lt_of_le_of_lt (Nat.zero_le k) hlt))
      · obtain ⟨x0, x1, x2, x3, x4, x5, x6⟩ := y'
        have hc : ∀ c v, (Item.cells ⟨x0, x1, x2, x3, x4, x5, x6⟩)[c]? = some v → wr.cell? ⟨b, off + k * 7 + c, none⟩ = some v := fun c v hv => (xk.cell (p := ⟨b, off + k * 7 + c, none⟩) hb).trans (hrow k _ hy c v hv)
        have c0 := hc 0 _ rfl; have c1 := hc 1 _ rfl
        rw [Nat.add_zero] at c0
        by_cases hin : x ≤ k ∧ (k : Int) < y
        · have hpc := pc_in hin.1 hin.2 hy
          have hgs := bsum_snoc (pc l x y k) ⟨x0, x1, x2, x3, x4, x5, x6⟩
          rw [← hpc, ← hs.out] at hgs
          have hbw := bsum_within (pc l x y (k + 1)) (pc_fair HF.out x y (k + 1))
          have hpl := pc_len l x y (k + 1)
          rw [hgs] at hbw
          obtain ⟨j1, j2⟩ := hin
          clear hc hpc hy hrow
          by_cases h2 : x0 = 1
          · subst h2
            simp only [boxI, if_true] at hgs hbw
            have hwr : IntKind.i64.wrap (s + x1) = s + x1 := by rw [IntKind.wrap_i64]; omega
            have HG := Lib.hid hgs
            clear hgs hbw hpl
            go_wp2
            go_roundw
            case rel => exact ⟨k + 1, s + x1, by omega, by go_num, rfl, Lib.hid HG.out.symm, xk⟩
            case measure => simp [intOf]; omega
          · have h21 : (x0 == 1) = false := beq_eq_false_iff_ne.2 h2
            simp only [boxI, h2, if_false, Int.add_zero] at hgs
            have HG := Lib.hid hgs
            clear hgs hbw hpl
            go_wp2
            go_roundw
            case rel => exact ⟨k + 1, s, by omega, by go_num, rfl, Lib.hid HG.out.symm, xk⟩
            case measure => simp [intOf]; omega
        · have hpc := pc_out (l := l) hin
          have HS : Hid (s = bsum (pc l x y (k + 1))) := Lib.hid (by rw [hpc]; exact hs.out)
          clear hpc hc
          by_cases hx1 : x ≤ k
          · have hy1 : decide ((k : Int) < y) = false := decide_eq_false (by omega)
            go_wp2
            go_roundw
            case rel => exact ⟨k + 1, s, by omega, by go_num, rfl, HS, xk⟩
            case measure => simp [intOf]; omega
          · have hx2 : decide (x ≤ (k : Int)) = false := decide_eq_false hx1
            go_wp2
            go_roundw
            case rel => exact ⟨k + 1, s, by omega, by go_num, rfl, HS, xk⟩
            case measure => simp [intOf]; omega
    · obtain rfl : k = l.length := by omega
      have hv := hs.out
      rw [piece_pc] at hv
      have HV := Lib.hid hv
      clear hv
      go_wp2
      go_ret
      exact ⟨by rw [← HV.out]; rfl, xk⟩

set_option maxRecDepth 100000 in
set_option maxHeartbeats 4000000 in
theorem refFairL_any (a : Option Addr) (cap : Nat) (l : List Item) (w : World) (hl : SlOk w 7 Item.cells a l.length cap l) (h4 : l.length ≤ 4096) :
    Calls Try.prog 14 #[.slice a l.length cap] w fun e w' => e = .returned (.bool (fairL l)) ∧ Kp w w' := by
  go_enter Try.func14, Try.ntmps14
  go_wp2
  go_loopw [3] (fun v3 wr => ∃ (k : Nat), k ≤ l.length ∧ v3 = .int .i64 k ∧ Kp w wr ∧ Hid (fairL (l.take k) = true)) (fun v3 _ => l.length - (intOf v3).toNat)
  case atStart => exact ⟨0, by omega, rfl, (by (repeat (first | with_reducible assumption | with_reducible exact Kp.refl _ | with_reducible refine Kp.drew ?_ | with_reducible refine Kp.drewN ?_ _ | with_reducible refine Kp.alloc ?_ _ | ((with_reducible refine Kp.setCell ?_ ?_ _); rotate_left; (focus (first | omega | (simp; done) | (simp; omega)))) | with_reducible refine Kp.trans ?_ (by assumption)))), Lib.hid rfl⟩
  case round =>
    obtain ⟨k, hk, rfl, xk, hf⟩ := hrel
    by_cases hlt : k < l.length
    · obtain ⟨y', hy⟩ : ∃ y, l[k]? = some y := ⟨l[k]'hlt, List.getElem?_eq_getElem _⟩
      rcases hl.2.2.2 with e | ⟨b, off, rfl, hb, hrow⟩
      · exact absurd (by rw [e]; rfl) (Nat.ne_of_gt (Nat.lt_of_le_of_lt (Nat.zero_le k) hlt))
      · obtain ⟨x0, x1, x2, x3, x4, x5, x6⟩ := y'
        have hc : ∀ c v, (Item.cells ⟨x0, x1, x2, x3, x4, x5, x6⟩)[c]? = some v → wr.cell? ⟨b, off + k * 7 + c, none⟩ = some v := fun c v hv => (xk.cell (p := ⟨b, off + k * 7 + c, none⟩) hb).trans (hrow k _ hy c v hv)
        have c0 := hc 0 _ rfl; have c1 := hc 1 _ rfl; have c2 := hc 2 _ rfl; have c3 := hc 3 _ rfl; have c4 := hc 4 _ rfl; have c5 := hc 5 _ rfl; have c6 := hc 6 _ rfl
        rw [Nat.add_zero] at c0
        have cT := refItemTot_any ⟨x0, x1, x2, x3, x4, x5, x6⟩
        obtain ⟨⟨t0, t1, t2, t3, t4, t5⟩, ht⟩ : ∃ t, totI ⟨x0, x1, x2, x3, x4, x5, x6⟩ = t := ⟨_, rfl⟩
        rw [ht] at cT
        simp only [Item.v, Tot.v] at cT
        have cF := refFair_any t0 t1 t2 t3 t4 t5
        obtain ⟨f, hff⟩ : ∃ f, fairT ⟨t0, t1, t2, t3, t4, t5⟩ = f := ⟨_, rfl⟩
        rw [hff] at cF
        clear hc hrow
        go_wp2_with fail
        refine (cT _).mono ?_
        rintro e w2 ⟨rfl, k2⟩
        go_wp2_with fail
        refine (cF _).mono ?_
        rintro e w3 ⟨rfl, k3⟩
        have yk := (xk.trans k2).trans k3
        clear xk k2 k3 c0 c1 c2 c3 c4 c5 c6 cT cF
        cases f with
        | false =>
          have HN := Lib.hid (fairL_no hy (by rw [ht]; exact hff))
          clear hff
          go_wp2
          go_ret
          exact ⟨by rw [HN.out]; rfl, yk⟩
        | true =>
          have HN := Lib.hid (fairL_snoc hy (by rw [ht]; exact hff) hf.out)
          clear hff hf
          go_wp2
          go_roundw
          case rel => exact ⟨k + 1, by omega, by go_num, yk, HN⟩
          case measure => simp [intOf]; omega
    · obtain rfl : k = l.length := by omega
      have hv := hf.out
      rw [List.take_length] at hv
      have HV := Lib.hid hv
      have j1 : (l.length : Int) ≤ 4096 := by omega
      clear hv hf
      go_wp2
      go_ret
      exact ⟨by rw [HV.out]; rfl, xk⟩
end Go.Proofs.Yteipfamaclildaa
