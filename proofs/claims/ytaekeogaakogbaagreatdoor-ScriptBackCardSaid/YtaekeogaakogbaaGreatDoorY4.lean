/- Part of the proof: Is a job more than is gone through? (tympanlaw14.Large) Plain sizes: lines of a job that is not large; what is read of a short text. The law ScriptBack: a job is read back from its text; what is read of a text has just this text. -/
import Derived.Test.YtaekeogaakogbaaGreatDoorY3
namespace Go.Proofs.YtaekeogaakogbaaGreatDoor

open Go.ChangeShapes Go.WideShapes Go.ChangeAt Go.RowKit Go.Shelf

def LargeEnd (x : JobI) (w : World) (e : Ending) (w' : World) : Prop := Kp w w' ∧ ∃ b, e = .returned (.bool b) ∧ (b = false → x.its.len ≤ 100 ∧ ∀ y, y ∈ x.nts.l → y.ls.len ≤ 100)
set_option maxRecDepth 100000 in
set_option maxHeartbeats 8000000 in
theorem large_any (x : JobI) (w : World) (hx : x.good w) : Calls Tryz.prog 9 #[.agg x.L.toArray] w (LargeEnd x w) := by
  obtain ⟨X, hX⟩ : ∃ X, x.L = X := ⟨_, rfl⟩
  have X19 := Lib.hid (x.get hx.len 1 (by omega))
  have X20 := Lib.hid (x.get hx.len 2 (by omega))
  have X21 := Lib.hid (x.get hx.len 3 (by omega))
  have HN := Lib.hid hx.nts
  have hc1 := hx.its.2.1
  have hm1 := hx.its.2.2.1
  have hc2 := hx.nts.2.1
  have hm2 := hx.nts.2.2.1
  have hc3 := hx.fls.2.1
  have hm3 := hx.fls.2.2.1
  unfold maxLen at hm1 hm2 hm3
  rw [hX] at X19 X20 X21 ⊢
  have HEND : Hid (∀ e w', (Kp w w' ∧ ∃ b, e = .returned (.bool b) ∧ (b = false → x.its.len ≤ 100 ∧ ∀ y, y ∈ x.nts.l → y.ls.len ≤ 100)) → LargeEnd x w e w') := Lib.hid fun e w' h => h
  obtain ⟨Q, hQ⟩ : ∃ Q, LargeEnd x w = Q := ⟨_, rfl⟩
  rw [hQ] at HEND ⊢
  obtain ⟨p1, b1, ⟨a1, n, c1, l⟩, ⟨a2, m, c2, l2⟩, ⟨a3, q, c3, l3⟩⟩ := x
  simp only at HN HEND hc1 hm1 hc2 hm2 hc3 hm3 X19 X20 X21
  clear hx hX hQ
  go_enter Tryz.func9, Tryz.ntmps9
  go_wp2_with (first
    | (refine boxRowW (vs := X) rfl (.tmp 0) rfl rfl ?_; intro w1 hA hoth hkp hlt; have kw1 : Kp w w1 := hkp (Kp.refl w); clear hoth hkp))
  have HA := Lib.hid hA
  have hal := hA.lt
  clear hA
  go_loopw [3] (fun v3 wr => ∃ k : Nat, k ≤ m ∧ k ≤ 100 ∧ v3 = .int .i64 k ∧ (∀ (j : Nat) (y : Nt), j < k → l2[j]? = some y → y.ls.len ≤ 100) ∧ Kp w1 wr) (fun v3 _ => 100 - (intOf v3).toNat)
  case atStart => exact ⟨0, Nat.zero_le _, Nat.zero_le _, rfl, fun j x hj => by omega, (by (repeat (first | with_reducible assumption | with_reducible exact Kp.refl _ | with_reducible refine Kp.drew ?_ | with_reducible refine Kp.drewN ?_ _ | with_reducible refine Kp.alloc ?_ _ | ((with_reducible refine Kp.setCell ?_ ?_ _); rotate_left; (focus (first | omega | (simp; done) | (simp; omega)))) | with_reducible refine Kp.trans ?_ (by assumption))))⟩
  case round =>
    obtain ⟨k, hk, hk1, rfl, hall, xk⟩ := hrel
    have xk0 := kw1.trans xk
    have HALL := Lib.hid hall
    clear hall
    have y19 := (HA.out.kp xk).cell 19 (X19.out.trans rfl)
    have y20 := (HA.out.kp xk).cell 20 (X20.out.trans rfl)
    have y21 := (HA.out.kp xk).cell 21 (X21.out.trans rfl)
    have hal' := Nat.lt_of_lt_of_le hal xk.size
    by_cases hlt : k < m ∧ k < 100
    · obtain ⟨hl1, hl2⟩ := hlt
      have j1 : decide ((k : Int) < (m : Int)) = true := decide_eq_true (by omega)
      have j2 : decide ((k : Int) < 100) = true := decide_eq_true (by omega)
      have j2' : decide (k < 100) = true := decide_eq_true (by omega)
      obtain ⟨ga, oa, ⟨⟨la, ln, lc, ll⟩, ⟨pa, pn, pc, pl⟩⟩, rfl, hga, hx, r1⟩ := (HN.out.kp xk0).at hl1
      have d0 := r1 0 _ rfl; have d1 := r1 1 _ rfl
      simp only [Nat.add_zero] at d0 d1
      have hc2' : k < c2 := by omega
      have HX := Lib.hid hx
      clear r1 hx
      by_cases e1 : 100 < ln
      · have q1 : decide ((100 : Int) < (ln : Int)) = true := decide_eq_true (by omega)
        have q1' : decide (100 < ln) = true := decide_eq_true e1
        go_wp2_with fail
        (try go_ret)
        exact HEND.out _ _ ⟨xk0, true, rfl, fun h => by cases h⟩
      · have q1 : decide ((100 : Int) < (ln : Int)) = false := decide_eq_false (by omega)
        have q1' : decide (100 < ln) = false := decide_eq_false e1
        by_cases e2 : 100 < pn
        · have q2 : decide ((100 : Int) < (pn : Int)) = true := decide_eq_true (by omega)
          have q2' : decide (100 < pn) = true := decide_eq_true e2
          go_wp2_with fail
          (try go_ret)
          exact HEND.out _ _ ⟨xk0, true, rfl, fun h => by cases h⟩
        · have q2 : decide ((100 : Int) < (pn : Int)) = false := decide_eq_false (by omega)
          have q2' : decide (100 < pn) = false := decide_eq_false e2
          have HAL : Hid (∀ (j : Nat) (y : Nt), j < k + 1 → l2[j]? = some y → y.ls.len ≤ 100) := Lib.hid fun j y hj hy => by
            by_cases e : j = k
            · rw [e, HX.out] at hy; cases hy; show ln ≤ 100; omega
            · exact HALL.out j y (by omega) hy
          go_wp2_with fail
          go_roundw
          case rel => exact ⟨k + 1, by omega, by omega, by go_num, HAL.out, xk⟩
          case measure => simp [intOf]; omega
    · have hcases : k = m ∨ (k < m ∧ k = 100) := by omega
      have HFIN : Hid (m ≤ 100 → ∀ y, y ∈ l2 → y.ls.len ≤ 100) := Lib.hid fun hm y hy => by
        obtain ⟨j, hj, rfl⟩ := List.getElem_of_mem hy
        have := HN.out.1
        exact HALL.out j _ (by omega) (List.getElem?_eq_getElem hj)
      clear HALL
      rcases hcases with rfl | ⟨hl, rfl⟩
      · have j1 : decide ((k : Int) < (k : Int)) = false := decide_eq_false (by omega)
        by_cases e1 : 100 < n
        · have q1 : decide ((100 : Int) < (n : Int)) = true := decide_eq_true (by omega)
          have q1' : decide (100 < n) = true := decide_eq_true e1
          go_wp2_with fail
          (try go_ret)
          exact HEND.out _ _ ⟨xk0, true, rfl, fun h => by cases h⟩
        · have q1 : decide ((100 : Int) < (n : Int)) = false := decide_eq_false (by omega)
          have q1' : decide (100 < n) = false := decide_eq_false e1
          by_cases e2 : 100 < k
          · exact absurd e2 (by omega)
          · have q2 : decide ((100 : Int) < (k : Int)) = false := decide_eq_false (by omega)
            have q2' : decide (100 < k) = false := decide_eq_false e2
            by_cases e3 : 100 < q
            · have q3 : decide ((100 : Int) < (q : Int)) = true := decide_eq_true (by omega)
              have q3' : decide (100 < q) = true := decide_eq_true e3
              go_wp2_with fail
              (try go_ret)
              exact HEND.out _ _ ⟨xk0, true, rfl, fun h => by cases h⟩
            · have q3 : decide ((100 : Int) < (q : Int)) = false := decide_eq_false (by omega)
              have q3' : decide (100 < q) = false := decide_eq_false e3
              go_wp2_with fail
              (try go_ret)
              exact HEND.out _ _ ⟨xk0, false, rfl, fun _ => ⟨by omega, HFIN.out (by omega)⟩⟩
      · have j1 : decide ((100 : Int) < (m : Int)) = true := decide_eq_true (by omega)
        rw [show ((100 : Nat) : Int) = 100 from rfl]
        by_cases e1 : 100 < n
        · have q1 : decide ((100 : Int) < (n : Int)) = true := decide_eq_true (by omega)
          have q1' : decide (100 < n) = true := decide_eq_true e1
          go_wp2_with fail
          (try go_ret)
          exact HEND.out _ _ ⟨xk0, true, rfl, fun h => by cases h⟩
        · have q1 : decide ((100 : Int) < (n : Int)) = false := decide_eq_false (by omega)
          have q1' : decide (100 < n) = false := decide_eq_false e1
          by_cases e2 : 100 < m
          · have q2 : decide ((100 : Int) < (m : Int)) = true := decide_eq_true (by omega)
            have q2' : decide (100 < m) = true := decide_eq_true e2
            clear e2 hl
            go_wp2_with fail
            (try go_ret)
            exact HEND.out _ _ ⟨xk0, true, rfl, fun h => by cases h⟩
          · exact absurd hl e2
end Go.Proofs.YtaekeogaakogbaaGreatDoor
namespace Go.Proofs.YtaekeogaakogbaaGreatDoor

open Go.ChangeShapes Go.WideShapes Go.ChangeAt Go.RowKit Go.Shelf

theorem nums_few {j : JobD} (hn : ∀ d, d ∈ j.notes → d.lines.length ≤ 100) (y : Itm) : (numsJ j y).length ≤ 200 := by
  unfold numsJ
  repeat' split
  all_goals (first | (simp; done) | skip)
  rename_i d hd
  have h1 := hn d (List.mem_of_getElem? hd)
  have h2 := wvN_len d.lines d.pens d.lines.length
  unfold weave
  omega
theorem headLs_len (g : List Int) : ∀ i, (headLs g i).length ≤ i
  | 0 => Nat.le_refl _
  | i + 1 => by
    have := headLs_len g i
    unfold headLs
    rw [List.length_append]
    split
    · simp; omega
    · simp; omega
theorem itemLs_len (j : JobD) : ∀ i, (itemLs j i).length ≤ i
  | 0 => Nat.le_refl _
  | i + 1 => by
    have := itemLs_len j i
    unfold itemLs
    rw [List.length_append]
    split
    · simp; omega
    · simp; omega
theorem linesJ_len (j : JobD) : (linesJ j).length ≤ 19 + j.items.length := by
  have h1 := headLs_len j.g 18
  have h2 := itemLs_len j j.items.length
  have h3 : (balLs j.bal).length ≤ 1 := by cases j.bal <;> decide
  unfold linesJ
  rw [List.length_append, List.length_append]
  omega
theorem lines_short {j : JobD} (hj : j.ok) (hN : NumsOk j) (hn : ∀ d, d ∈ j.notes → d.lines.length ≤ 100) : ∀ l, l ∈ linesJ j → l.length ≤ 10000 := by
  have h1 : ∀ i, i ≤ 18 → ∀ l, l ∈ headLs j.g i → l.length ≤ 10000 := by
    intro i
    induction i with
    | zero => intro _ l hl; cases hl
    | succ i ih =>
      intro hi l hl
      unfold headLs at hl
      rcases List.mem_append.1 hl with hl | hl
      · exact ih (by omega) l hl
      · split at hl
        · cases hl
        · rw [List.mem_singleton] at hl; rw [hl]
          have h2 := gwAt_len (i := i) (by omega)
          have hg : I64 (j.g.getD i 0) := by
            rw [List.getD_eq_getElem?_getD, List.getElem?_eq_getElem (by rw [hj.len]; omega)]
            exact hj.g _ (List.getElem_mem _)
          have h3 := lineL_short (wd := gwAt i) (ns := [j.g.getD i 0]) (fun x hx => by rw [List.mem_singleton] at hx; rw [hx]; exact hg)
          simp only [List.length_singleton] at h3
          omega
  have h2 : ∀ i, ∀ l, l ∈ itemLs j i → l.length ≤ 10000 := by
    intro i
    induction i with
    | zero => intro l hl; cases hl
    | succ i ih =>
      intro l hl
      unfold itemLs at hl
      rcases List.mem_append.1 hl with hl | hl
      · exact ih l hl
      · split at hl
        · rename_i y hy
          rw [List.mem_singleton] at hl; rw [hl]
          have h3 := kindW_len (y.k - 1).toNat
          have h4 := lineL_short (wd := kindW.getD (y.k - 1).toNat []) (hN y (List.mem_of_getElem? hy)).2
          have h5 := nums_few hn y
          omega
        · cases hl
  intro l hl
  unfold linesJ at hl
  rcases List.mem_append.1 hl with hl | hl
  · exact h1 18 (Nat.le_refl _) l hl
  · rcases List.mem_append.1 hl with hl | hl
    · unfold balLs at hl
      split at hl
      · rw [List.mem_singleton] at hl; rw [hl]; decide
      · cases hl
    · exact h2 _ l hl
theorem rest_mono (s : List UInt8) {k : Nat} : ∀ m, (restK s (k + m)).length ≤ (restK s k).length
  | 0 => Nat.le_refl _
  | m + 1 => Nat.le_trans (cut_le _).2 (rest_mono s m)
theorem text_short {ls : List (List UInt8)} (h : ∀ l, l ∈ ls → (10 : UInt8) ∉ l) (hl : ∀ l, l ∈ ls → l.length ≤ 10000) (k : Nat) : (lineK (textL ls) k).length ≤ 10000 := by
  by_cases hk : k < ls.length
  · have e := List.getElem?_eq_getElem hk
    rw [(line_text ls h e).1]
    exact hl _ (List.getElem_mem _)
  · have h1 := rest_mono (textL ls) (k := ls.length) (k - ls.length)
    rw [Nat.add_sub_cancel' (by omega), rest_text ls h _ (Nat.le_refl _), List.drop_length] at h1
    have h2 := (cut_le (restK (textL ls) k)).1
    have h3 : (textL []).length = 0 := rfl
    unfold lineK
    omega
theorem write_len {j : JobD} (hg : ∀ n, n ∈ j.g → I64 n) (hN : NumsOk j) (hi : j.items.length ≤ 1000) : (writeJ j).length ≤ 1000000000 := by
  have h1 := headN_len j.g hg 18 (Nat.le_refl _)
  have h2 := itemsN_len hN j.items.length
  have h3 : (balT j.bal).length ≤ 100 := by cases j.bal <;> decide
  unfold writeJ
  rw [List.length_append, List.length_append]
  have : j.items.length * 500000 ≤ 1000 * 500000 := Nat.mul_le_mul_right _ hi
  omega
/-- A job that is not large is read back from its text. -/
theorem read_back (x : JobI) (W w : World) (he : Env w) (hx : x.good W) (hR : rightJ x.d = true) (hs : x.its.len ≤ 100) (hn : ∀ y, y ∈ x.nts.l → y.ls.len ≤ 100) :
    Calls Tryz.prog 6 #[sv (writeJ x.d)] w fun e w' => Kp w w' ∧ ∃ y : JobI, y.good w' ∧ y.d = x.d ∧ e = .returned (.tuple #[.agg y.L.toArray, .int .i64 0]) := by
  have hok := JobI.ok hx
  have hnd : ∀ d, d ∈ x.d.notes → d.lines.length ≤ 100 := fun d hd => by
    obtain ⟨y, hy, rfl⟩ := List.mem_map.1 hd
    have h1 := hn y hy
    have h2 := (hx.nok y hy).1.1.1
    show y.ls.l.length ≤ 100
    omega
  have hN := nums_ok hok (fun d hd => Nat.le_trans (hnd d hd) (by decide))
  have hil : x.d.items.length ≤ 100 := by
    show x.its.l.length ≤ 100
    rw [hx.its.1]; exact hs
  obtain ⟨nx, hr⟩ := text_back hR hok hN
  have h10 := lines_no10 x.d
  obtain ⟨q1, q2, q3, q4⟩ := text_good h10 hr
  have hlen := linesJ_len x.d
  have hsh := text_short h10 (lines_short hok hN hnd)
  have hwl := write_len hok.g hN (by omega)
  rw [text_lines] at q1 q2 q3 q4 hsh
  refine (scriptRead_any (writeJ x.d) w he hwl hsh (fun N hg => ?_)).mono fun e w' h => ?_
  · by_cases hN' : N ≤ (linesJ x.d).length
    · omega
    · exact absurd (hg _ (by omega)) q2
  · obtain ⟨k, iv, nv, fv, he', hJ⟩ := script_done h q1 q2 q3 q4
    obtain ⟨y, hy, hd, hL⟩ := hJ.jobI hok
    exact ⟨k, y, hy, hd, by rw [he', hL]; rfl⟩
theorem addJ_notes {j j' : JobD} {w : List UInt8} {ns : List Int} {M : Nat} (ha : addJ j w ns = some j') (h : ∀ d, d ∈ j.notes → d.lines.length ≤ M) (hM : ns.length ≤ M) : ∀ d, d ∈ j'.notes → d.lines.length ≤ M := by
  unfold addJ at ha
  repeat' split at ha
  all_goals (first | (cases ha; done) | skip)
  all_goals cases ha
  all_goals (first | exact h | skip)
  intro d hd
  rcases List.mem_append.1 hd with hd | hd
  · exact h d hd
  · rw [List.mem_singleton] at hd
    have h1 := (evens_len ns).1
    rw [hd]
    show (evens ns).length ≤ M
    omega
theorem line_nums (w : List UInt8) (ns : List Int) : ns.length ≤ (lineL w ns).length := by
  unfold lineL
  rw [List.length_append]
  have : ns.length ≤ (ns.flatMap numL).length := by
    induction ns with
    | nil => exact Nat.le_refl _
    | cons n ns ih =>
      rw [List.flatMap_cons, List.length_append, List.length_cons]
      have : (numL n).length = (Lib.itoa n).length + 1 := rfl
      omega
  omega
theorem takeJ_notes {j j' : JobD} {next next' : Nat} {l : List UInt8} {M : Nat} (h : takeJ (j, next) l = some (j', next')) (hn : ∀ d, d ∈ j.notes → d.lines.length ≤ M) (hM : l.length ≤ M) : ∀ d, d ∈ j'.notes → d.lines.length ≤ M := by
  unfold takeJ at h
  split at h
  · cases h
  · rename_i w ns hp
    obtain ⟨rfl, -, -⟩ := parseP_ok hp
    have hl := line_nums w ns
    split at h
    · rw [Option.map_eq_some_iff] at h
      obtain ⟨j2, ha, h2⟩ := h
      cases h2
      exact addJ_notes ha hn (by omega)
    · unfold headJ at h
      split at h
      · split at h
        · cases h; exact hn
        · cases h
      · split at h
        · cases h
        · split at h
          · cases h
          · split at h
            · split at h
              · cases h
              · cases h; exact hn
            · cases h
theorem stK_notes {s : List UInt8} : ∀ {k : Nat} {j : JobD} {next : Nat}, stK s k = some (j, next) → ∀ d, d ∈ j.notes → d.lines.length ≤ s.length
  | 0, j, next, h => by cases h; exact fun d hd => by cases hd
  | k + 1, j', next', h => by
    unfold stK at h
    rw [Option.bind_eq_some_iff] at h
    obtain ⟨⟨j, next⟩, h1, h2⟩ := h
    exact takeJ_notes h2 (stK_notes h1) (Nat.le_trans (cut_le _).1 (rest_le s k))
/-- What is read of any short text, and what is written of it. -/
theorem read_write {s : List UInt8} {W w1 : World} {e : Ending} (h : ScriptEnd s W e w1) (hs : s.length ≤ 3000) : ∃ (y : JobI) (z : Int) (t : List UInt8), e = .returned (.tuple #[.agg y.L.toArray, .int .i64 z]) ∧ y.good w1 ∧ Kp W w1 ∧ (z = 0 → t = s) ∧
    ∀ w', Env w' → Kp w1 w' → Calls Tryz.prog 10 #[.agg y.L.toArray] w' fun e w'' => e = .returned (.tuple #[sv t, .bool true]) ∧ Kp w' w'' := by
  obtain ⟨k1, N, hg, hn, ⟨hr, j, nx, iv, nv, fv, hst, rfl, hJ⟩ | ⟨hr, rfl⟩⟩ := h
  · have hN := rest_len s N hg
    obtain ⟨hok, hfew, _⟩ := stK_ok (by omega) hst
    have hnl := stK_notes hst
    obtain ⟨hR, ht⟩ := read_text hg hr hst
    obtain ⟨y, hy, hd, hL⟩ := hJ.jobI hok
    have hi : y.its.l.length ≤ 100000 := by
      have : y.its.l = j.items := congrArg JobD.items hd
      rw [this]
      have := hfew.1
      omega
    have hnn : ∀ z, z ∈ y.nts.l → z.ls.l.length ≤ 10000 := fun z hz => by
      have h1 : z.d ∈ j.notes := by
        have : y.nts.l.map Nt.d = j.notes := congrArg JobD.notes hd
        rw [← this]
        exact List.mem_map_of_mem hz
      have h2 := hnl _ h1
      have h3 : z.d.lines = z.ls.l := rfl
      rw [h3] at h2
      omega
    refine ⟨y, 0, writeJ y.d, by rw [hL]; rfl, hy, k1, fun _ => by rw [hd, ht], fun w' he k => write_yes y w' he (hy.kp k) (by rw [hd]; exact hR) hi hnn⟩
  · exact ⟨jobI0, _, writeJ jobI0.d, rfl, jobI0_good _, k1, fun h => by omega, fun w' he k => write_yes jobI0 w' he (jobI0_good _) (by decide) (by decide) (fun y hy => by cases hy)⟩
end Go.Proofs.YtaekeogaakogbaaGreatDoor
namespace Go.Proofs.YtaekeogaakogbaaGreatDoor

open Go.ChangeShapes Go.WideShapes Go.ChangeAt Go.RowKit Go.Shelf

set_option maxRecDepth 100000 in
set_option maxHeartbeats 8000000 in
theorem scriptBack_main (x : JobI) (s : List UInt8) (w : World) (he : Env w) (hx : x.good w) (hs : s.length ≤ 140737488351232) :
    Calls Tryz.prog 4 #[.agg x.L.toArray, sv s] w fun e w' => e = .returned (.bool true) ∧ Kp w w' := by
  obtain ⟨X, hX⟩ : ∃ X, x.L = X := ⟨_, rfl⟩
  have HXl : Hid (X.length = 22) := Lib.hid (by rw [← hX]; exact JobI.L_len hx)
  have CL : Hid (∀ w', Kp w w' → Calls Tryz.prog 9 #[.agg X.toArray] w' (LargeEnd x w')) := Lib.hid fun w' k => by rw [← hX]; exact large_any x w' (hx.kp k)
  have CAW : Hid (∀ w', Kp w w' → Calls Tryz.prog 5 #[] w' fun e w'' => e = .returned (.bool true) ∧ Kp w' w'') := Lib.hid fun w' k => awake43_any w' (he.kp k)
  have CW0 : Hid (x.its.len ≤ 100 → rightJ x.d = false → ∀ w', Kp w w' → Calls Tryz.prog 10 #[.agg X.toArray] w' fun e w'' => e = .returned (.tuple #[sv [], .bool false]) ∧ Kp w' w'') := Lib.hid fun hl hR w' k => by
    rw [← hX]; exact write_no x w' (hx.kp k) hR (by rw [hx.its.1]; omega)
  have CW1 : Hid (x.its.len ≤ 100 → (∀ y, y ∈ x.nts.l → y.ls.len ≤ 100) → rightJ x.d = true → ∀ w', Kp w w' → Calls Tryz.prog 10 #[.agg X.toArray] w' fun e w'' => e = .returned (.tuple #[sv (writeJ x.d), .bool true]) ∧ Kp w' w'') := Lib.hid fun hl hn hR w' k => by
    rw [← hX]; exact write_yes x w' (he.kp k) (hx.kp k) hR (by rw [hx.its.1]; omega) (fun y hy => by have h1 := hn y hy; have h2 := (hx.nok y hy).1.1.1; omega)
  have CB : Hid (x.its.len ≤ 100 → (∀ y, y ∈ x.nts.l → y.ls.len ≤ 100) → rightJ x.d = true → ∀ w', Kp w w' → Calls Tryz.prog 6 #[sv (writeJ x.d)] w' fun e w'' => Kp w' w'' ∧ ∃ y : JobI, y.good w'' ∧ y.d = x.d ∧ e = .returned (.tuple #[.agg y.L.toArray, .int .i64 0])) := Lib.hid fun hl hn hR w' k => read_back x w w' (he.kp k) hx hR hl hn
  have CS : Hid (∀ (y : JobI) w', Kp w w' → y.good w' → y.d = x.d → Calls Tryz.prog 8 #[.agg X.toArray, .agg y.L.toArray] w' fun e w'' => e = .returned (.bool true) ∧ Kp w' w'') := Lib.hid fun y w' k hy hd => by
    rw [← hX]; exact same14_any x y w' (hx.kp k) hy hd.symm
  have CG : Hid (s.length ≤ 3000 → ∀ w', Kp w w' → Calls Tryz.prog 6 #[sv s] w' (ScriptEnd s w')) := Lib.hid fun hs w' k => scriptRead_any s w' (he.kp k) (by omega) (line_le s (by omega)) (good_le s (by omega))
  have HE := Lib.hid he
  rw [hX]
  clear he hx hX
  go_enter Tryz.func4, Tryz.ntmps4
  go_wp2_with (first
    | (refine boxRowW (vs := X) rfl (.tmp 0) rfl rfl ?_; intro w1 hA hoth hkp hlt; have kw1 : Kp w w1 := hkp (Kp.refl w); clear hoth hkp)
    | (refine ldRowAt rowJob rfl (.tmp 2) rfl (vs := X) hA.range HXl.out rfl ?_))
  refine (CL.out _ (kw1.trans (by (repeat (first | with_reducible assumption | with_reducible exact Kp.refl _ | with_reducible refine Kp.drew ?_ | with_reducible refine Kp.drewN ?_ _ | with_reducible refine Kp.alloc ?_ _ | ((with_reducible refine Kp.setCell ?_ ?_ _); rotate_left; (focus (first | omega | (simp; done) | (simp; omega)))) | with_reducible refine Kp.trans ?_ (by assumption)))))).mono ?_
  rintro e w2 ⟨k2, b, rfl, hb⟩
  have k12 : Kp w1 w2 := (show Kp w1 _ from (by (repeat (first | with_reducible assumption | with_reducible exact Kp.refl _ | with_reducible refine Kp.drew ?_ | with_reducible refine Kp.drewN ?_ _ | with_reducible refine Kp.alloc ?_ _ | ((with_reducible refine Kp.setCell ?_ ?_ _); rotate_left; (focus (first | omega | (simp; done) | (simp; omega)))) | with_reducible refine Kp.trans ?_ (by assumption))))).trans k2
  have hal := hA.lt
  have HA := Lib.hid hA
  have HB := Lib.hid hb
  clear hb hA k2
  have far : ∀ (p : Prop) (_ : p), True := fun _ _ => trivial
  clear far
  rcases b with _ | _
  · obtain ⟨hb1, hb2⟩ := HB.out rfl
    by_cases hsl : 3000 < s.length
    · have j1 : decide ((3000 : Int) < (s.length : Int)) = true := decide_eq_true (by omega)
      have j2 : decide (3000 < s.length) = true := decide_eq_true hsl
      clear hb1 hb2
      go_wp2_with (first
        | (go_at_call 5; refine (CAW.out _ (kw1.trans (k12.trans (show Kp w2 _ from (by (repeat (first | with_reducible assumption | with_reducible exact Kp.refl _ | with_reducible refine Kp.drew ?_ | with_reducible refine Kp.drewN ?_ _ | with_reducible refine Kp.alloc ?_ _ | ((with_reducible refine Kp.setCell ?_ ?_ _); rotate_left; (focus (first | omega | (simp; done) | (simp; omega)))) | with_reducible refine Kp.trans ?_ (by assumption)))))))).mono ?_; rintro e w3 ⟨rfl, k3⟩))
      (try go_ret)
      exact ⟨rfl, kw1.trans (k12.trans ((show Kp w2 _ from (by (repeat (first | with_reducible assumption | with_reducible exact Kp.refl _ | with_reducible refine Kp.drew ?_ | with_reducible refine Kp.drewN ?_ _ | with_reducible refine Kp.alloc ?_ _ | ((with_reducible refine Kp.setCell ?_ ?_ _); rotate_left; (focus (first | omega | (simp; done) | (simp; omega)))) | with_reducible refine Kp.trans ?_ (by assumption))))).trans k3))⟩
    · have j1 : decide ((3000 : Int) < (s.length : Int)) = false := decide_eq_false (by omega)
      have j2 : decide (3000 < s.length) = false := decide_eq_false hsl
      have hs3 : s.length ≤ 3000 := by omega
      have CG2 := Lib.hid (CG.out hs3)
      have HS3 := Lib.hid hs3
      have hA2 := HA.out.kp k12
      have hal2 := hA2.lt
      clear hsl hs3 CL CG
      rcases hR : rightJ x.d with _ | _
      · have CW := Lib.hid (CW0.out hb1 hR)
        clear hb1 hb2 CW0 CW1 CB CS hR
        go_wp2_with (first
          | (refine ldRowAt rowJob rfl (.tmp 2) rfl (vs := X) (hA2.kp (show Kp w2 _ from (by (repeat (first | with_reducible assumption | with_reducible exact Kp.refl _ | with_reducible refine Kp.drew ?_ | with_reducible refine Kp.drewN ?_ _ | with_reducible refine Kp.alloc ?_ _ | ((with_reducible refine Kp.setCell ?_ ?_ _); rotate_left; (focus (first | omega | (simp; done) | (simp; omega)))) | with_reducible refine Kp.trans ?_ (by assumption)))))).range HXl.out rfl ?_)
          | (go_at_call 10; refine (CW.out _ (kw1.trans (k12.trans (show Kp w2 _ from (by (repeat (first | with_reducible assumption | with_reducible exact Kp.refl _ | with_reducible refine Kp.drew ?_ | with_reducible refine Kp.drewN ?_ _ | with_reducible refine Kp.alloc ?_ _ | ((with_reducible refine Kp.setCell ?_ ?_ _); rotate_left; (focus (first | omega | (simp; done) | (simp; omega)))) | with_reducible refine Kp.trans ?_ (by assumption)))))))).mono ?_; rintro e w5 ⟨rfl, k5⟩; have k15 : Kp w w5 := kw1.trans (k12.trans ((show Kp w2 _ from (by (repeat (first | with_reducible assumption | with_reducible exact Kp.refl _ | with_reducible refine Kp.drew ?_ | with_reducible refine Kp.drewN ?_ _ | with_reducible refine Kp.alloc ?_ _ | ((with_reducible refine Kp.setCell ?_ ?_ _); rotate_left; (focus (first | omega | (simp; done) | (simp; omega)))) | with_reducible refine Kp.trans ?_ (by assumption))))).trans k5))))
        refine (CG2.out _ (k15.trans (show Kp w5 _ from (by (repeat (first | with_reducible assumption | with_reducible exact Kp.refl _ | with_reducible refine Kp.drew ?_ | with_reducible refine Kp.drewN ?_ _ | with_reducible refine Kp.alloc ?_ _ | ((with_reducible refine Kp.setCell ?_ ?_ _); rotate_left; (focus (first | omega | (simp; done) | (simp; omega)))) | with_reducible refine Kp.trans ?_ (by assumption))))))).mono ?_
        intro e w7 h7
        obtain ⟨yy, z, t, rfl, hyy, k7, hzt, hwt⟩ := read_write h7 HS3.out
        have k57 : Kp w w7 := k15.trans ((show Kp w5 _ from (by (repeat (first | with_reducible assumption | with_reducible exact Kp.refl _ | with_reducible refine Kp.drew ?_ | with_reducible refine Kp.drewN ?_ _ | with_reducible refine Kp.alloc ?_ _ | ((with_reducible refine Kp.setCell ?_ ?_ _); rotate_left; (focus (first | omega | (simp; done) | (simp; omega)))) | with_reducible refine Kp.trans ?_ (by assumption))))).trans k7)
        have CWT : Hid (∀ w', Kp w7 w' → Calls Tryz.prog 10 #[.agg yy.L.toArray] w' fun e w'' => e = .returned (.tuple #[sv t, .bool true]) ∧ Kp w' w'') := Lib.hid fun w' k => hwt w' (HE.out.kp (k57.trans k)) k
        obtain ⟨Z, hZ⟩ : ∃ Z, yy.L = Z := ⟨_, rfl⟩
        have HZl : Hid (Z.length = 22) := Lib.hid (by rw [← hZ]; exact JobI.L_len hyy)
        have HZ1 : Hid (∀ v ∈ Z, v.oneCell' = true) := Lib.hid (by rw [← hZ]; exact JobI.L_one yy)
        rw [hZ] at CWT
        rw [hZ]
        clear h7 hyy hwt hZ k7
        by_cases hz : z = 0
        · have ht := hzt hz
          subst hz
          subst ht
          clear hzt
          go_wp2_with (first
            | (refine stRowW (vs := Z) rowJob rfl (.tmp 9) (.tmp 43) rfl (Blk.newL (cs := jobZ) rfl rfl) jobZ_len HZl.out HZ1.out rfl rfl ?_; intro w8 hb8 hoth8 hkp8 hsz8; have k78 : Kp w7 w8 := hkp8 (Nat.le_refl _) (show Kp w7 _ from (by (repeat (first | with_reducible assumption | with_reducible exact Kp.refl _ | with_reducible refine Kp.drew ?_ | with_reducible refine Kp.drewN ?_ _ | with_reducible refine Kp.alloc ?_ _ | ((with_reducible refine Kp.setCell ?_ ?_ _); rotate_left; (focus (first | omega | (simp; done) | (simp; omega)))) | with_reducible refine Kp.trans ?_ (by assumption))))); clear hoth8 hkp8 hsz8)
            | (refine ldRowAt rowJob rfl (.tmp 9) rfl (vs := Z) hb8.range HZl.out rfl ?_)
            | (go_at_call 10; refine (CWT.out _ (k78.trans (show Kp w8 _ from (by (repeat (first | with_reducible assumption | with_reducible exact Kp.refl _ | with_reducible refine Kp.drew ?_ | with_reducible refine Kp.drewN ?_ _ | with_reducible refine Kp.alloc ?_ _ | ((with_reducible refine Kp.setCell ?_ ?_ _); rotate_left; (focus (first | omega | (simp; done) | (simp; omega)))) | with_reducible refine Kp.trans ?_ (by assumption))))))).mono ?_; rintro e w9 ⟨rfl, k9⟩; have k79 : Kp w7 w9 := k78.trans ((show Kp w8 _ from (by (repeat (first | with_reducible assumption | with_reducible exact Kp.refl _ | with_reducible refine Kp.drew ?_ | with_reducible refine Kp.drewN ?_ _ | with_reducible refine Kp.alloc ?_ _ | ((with_reducible refine Kp.setCell ?_ ?_ _); rotate_left; (focus (first | omega | (simp; done) | (simp; omega)))) | with_reducible refine Kp.trans ?_ (by assumption))))).trans k9))
            | (go_at_call 5; refine (CAW.out _ (k57.trans (k79.trans (show Kp w9 _ from (by (repeat (first | with_reducible assumption | with_reducible exact Kp.refl _ | with_reducible refine Kp.drew ?_ | with_reducible refine Kp.drewN ?_ _ | with_reducible refine Kp.alloc ?_ _ | ((with_reducible refine Kp.setCell ?_ ?_ _); rotate_left; (focus (first | omega | (simp; done) | (simp; omega)))) | with_reducible refine Kp.trans ?_ (by assumption)))))))).mono ?_; rintro e w10 ⟨rfl, k10⟩))
          (try go_ret)
          exact ⟨rfl, k57.trans (k79.trans ((show Kp w9 _ from (by (repeat (first | with_reducible assumption | with_reducible exact Kp.refl _ | with_reducible refine Kp.drew ?_ | with_reducible refine Kp.drewN ?_ _ | with_reducible refine Kp.alloc ?_ _ | ((with_reducible refine Kp.setCell ?_ ?_ _); rotate_left; (focus (first | omega | (simp; done) | (simp; omega)))) | with_reducible refine Kp.trans ?_ (by assumption))))).trans k10))⟩
        · have q1 : (z == 0) = false := beq_eq_false_iff_ne.2 hz
          have q2 : (z != 0) = true := by simp [bne, q1]
          clear hzt
          go_wp2_with (first
            | (refine stRowW (vs := Z) rowJob rfl (.tmp 9) (.tmp 43) rfl (Blk.newL (cs := jobZ) rfl rfl) jobZ_len HZl.out HZ1.out rfl rfl ?_; intro w8 hb8 hoth8 hkp8 hsz8; have k78 : Kp w7 w8 := hkp8 (Nat.le_refl _) (show Kp w7 _ from (by (repeat (first | with_reducible assumption | with_reducible exact Kp.refl _ | with_reducible refine Kp.drew ?_ | with_reducible refine Kp.drewN ?_ _ | with_reducible refine Kp.alloc ?_ _ | ((with_reducible refine Kp.setCell ?_ ?_ _); rotate_left; (focus (first | omega | (simp; done) | (simp; omega)))) | with_reducible refine Kp.trans ?_ (by assumption))))); clear hoth8 hkp8 hsz8)
            | (refine ldRowAt rowJob rfl (.tmp 9) rfl (vs := Z) hb8.range HZl.out rfl ?_)
            | (go_at_call 10; refine (CWT.out _ (k78.trans (show Kp w8 _ from (by (repeat (first | with_reducible assumption | with_reducible exact Kp.refl _ | with_reducible refine Kp.drew ?_ | with_reducible refine Kp.drewN ?_ _ | with_reducible refine Kp.alloc ?_ _ | ((with_reducible refine Kp.setCell ?_ ?_ _); rotate_left; (focus (first | omega | (simp; done) | (simp; omega)))) | with_reducible refine Kp.trans ?_ (by assumption))))))).mono ?_; rintro e w9 ⟨rfl, k9⟩; have k79 : Kp w7 w9 := k78.trans ((show Kp w8 _ from (by (repeat (first | with_reducible assumption | with_reducible exact Kp.refl _ | with_reducible refine Kp.drew ?_ | with_reducible refine Kp.drewN ?_ _ | with_reducible refine Kp.alloc ?_ _ | ((with_reducible refine Kp.setCell ?_ ?_ _); rotate_left; (focus (first | omega | (simp; done) | (simp; omega)))) | with_reducible refine Kp.trans ?_ (by assumption))))).trans k9))
            | (go_at_call 5; refine (CAW.out _ (k57.trans (k79.trans (show Kp w9 _ from (by (repeat (first | with_reducible assumption | with_reducible exact Kp.refl _ | with_reducible refine Kp.drew ?_ | with_reducible refine Kp.drewN ?_ _ | with_reducible refine Kp.alloc ?_ _ | ((with_reducible refine Kp.setCell ?_ ?_ _); rotate_left; (focus (first | omega | (simp; done) | (simp; omega)))) | with_reducible refine Kp.trans ?_ (by assumption)))))))).mono ?_; rintro e w10 ⟨rfl, k10⟩))
          (try go_ret)
          exact ⟨rfl, k57.trans (k79.trans ((show Kp w9 _ from (by (repeat (first | with_reducible assumption | with_reducible exact Kp.refl _ | with_reducible refine Kp.drew ?_ | with_reducible refine Kp.drewN ?_ _ | with_reducible refine Kp.alloc ?_ _ | ((with_reducible refine Kp.setCell ?_ ?_ _); rotate_left; (focus (first | omega | (simp; done) | (simp; omega)))) | with_reducible refine Kp.trans ?_ (by assumption))))).trans k10))⟩
      · have CW := Lib.hid (CW1.out hb1 hb2 hR)
        have CB2 := Lib.hid (CB.out hb1 hb2 hR)
        clear hb1 hb2 CW0 CW1 CB hR
        obtain ⟨T, hT⟩ : ∃ T, writeJ x.d = T := ⟨_, rfl⟩
        rw [hT] at CW CB2
        clear hT
        go_wp2_with (first
          | (refine ldRowAt rowJob rfl (.tmp 2) rfl (vs := X) (hA2.kp (show Kp w2 _ from (by (repeat (first | with_reducible assumption | with_reducible exact Kp.refl _ | with_reducible refine Kp.drew ?_ | with_reducible refine Kp.drewN ?_ _ | with_reducible refine Kp.alloc ?_ _ | ((with_reducible refine Kp.setCell ?_ ?_ _); rotate_left; (focus (first | omega | (simp; done) | (simp; omega)))) | with_reducible refine Kp.trans ?_ (by assumption)))))).range HXl.out rfl ?_)
          | (go_at_call 10; refine (CW.out _ (kw1.trans (k12.trans (show Kp w2 _ from (by (repeat (first | with_reducible assumption | with_reducible exact Kp.refl _ | with_reducible refine Kp.drew ?_ | with_reducible refine Kp.drewN ?_ _ | with_reducible refine Kp.alloc ?_ _ | ((with_reducible refine Kp.setCell ?_ ?_ _); rotate_left; (focus (first | omega | (simp; done) | (simp; omega)))) | with_reducible refine Kp.trans ?_ (by assumption)))))))).mono ?_; rintro e w3 ⟨rfl, k3⟩; have k23 : Kp w2 w3 := (show Kp w2 _ from (by (repeat (first | with_reducible assumption | with_reducible exact Kp.refl _ | with_reducible refine Kp.drew ?_ | with_reducible refine Kp.drewN ?_ _ | with_reducible refine Kp.alloc ?_ _ | ((with_reducible refine Kp.setCell ?_ ?_ _); rotate_left; (focus (first | omega | (simp; done) | (simp; omega)))) | with_reducible refine Kp.trans ?_ (by assumption))))).trans k3))
        refine (CB2.out _ (kw1.trans (k12.trans (k23.trans (show Kp w3 _ from (by (repeat (first | with_reducible assumption | with_reducible exact Kp.refl _ | with_reducible refine Kp.drew ?_ | with_reducible refine Kp.drewN ?_ _ | with_reducible refine Kp.alloc ?_ _ | ((with_reducible refine Kp.setCell ?_ ?_ _); rotate_left; (focus (first | omega | (simp; done) | (simp; omega)))) | with_reducible refine Kp.trans ?_ (by assumption))))))))).mono ?_
        rintro e w4 ⟨k4, y, hy, hd, rfl⟩
        have k34 : Kp w3 w4 := (show Kp w3 _ from (by (repeat (first | with_reducible assumption | with_reducible exact Kp.refl _ | with_reducible refine Kp.drew ?_ | with_reducible refine Kp.drewN ?_ _ | with_reducible refine Kp.alloc ?_ _ | ((with_reducible refine Kp.setCell ?_ ?_ _); rotate_left; (focus (first | omega | (simp; done) | (simp; omega)))) | with_reducible refine Kp.trans ?_ (by assumption))))).trans k4
        have k14 : Kp w w4 := kw1.trans (k12.trans (k23.trans k34))
        have hA4 := hA2.kp (k23.trans k34)
        have hal4 := hA4.lt
        have CS2 : Hid (∀ w', Kp w4 w' → Calls Tryz.prog 8 #[.agg X.toArray, .agg y.L.toArray] w' fun e w'' => e = .returned (.bool true) ∧ Kp w' w'') := Lib.hid fun w' k => CS.out y w' (k14.trans k) (hy.kp k) hd
        obtain ⟨Y, hY⟩ : ∃ Y, y.L = Y := ⟨_, rfl⟩
        have HYl : Hid (Y.length = 22) := Lib.hid (by rw [← hY]; exact JobI.L_len hy)
        have HY1 : Hid (∀ v ∈ Y, v.oneCell' = true) := Lib.hid (by rw [← hY]; exact JobI.L_one y)
        rw [hY] at CS2
        rw [hY]
        clear CS CW CB2 hy hd hY
        go_wp2_with (first
          | (refine stRowW (vs := Y) rowJob rfl (.tmp 7) (.tmp 30) rfl (Blk.newL (cs := jobZ) rfl rfl) jobZ_len HYl.out HY1.out rfl rfl ?_; intro w6 hb6 hoth6 hkp6 hsz6; have k46 : Kp w4 w6 := hkp6 (Nat.le_refl _) (show Kp w4 _ from (by (repeat (first | with_reducible assumption | with_reducible exact Kp.refl _ | with_reducible refine Kp.drew ?_ | with_reducible refine Kp.drewN ?_ _ | with_reducible refine Kp.alloc ?_ _ | ((with_reducible refine Kp.setCell ?_ ?_ _); rotate_left; (focus (first | omega | (simp; done) | (simp; omega)))) | with_reducible refine Kp.trans ?_ (by assumption))))); have hA6 := hoth6 (by omega) (hA4.alloc _); clear hoth6 hkp6 hsz6)
          | (refine ldRowG rowJob (by rfl) (.tmp 2) rfl (vs := X) hA6.range HXl.out rfl ?_)
          | (refine ldRowG rowJob (by rfl) (.tmp 7) rfl (vs := Y) hb6.range HYl.out rfl ?_)
          | (go_at_call 8; refine (CS2.out _ (k46.trans (show Kp w6 _ from (by (repeat (first | with_reducible assumption | with_reducible exact Kp.refl _ | with_reducible refine Kp.drew ?_ | with_reducible refine Kp.drewN ?_ _ | with_reducible refine Kp.alloc ?_ _ | ((with_reducible refine Kp.setCell ?_ ?_ _); rotate_left; (focus (first | omega | (simp; done) | (simp; omega)))) | with_reducible refine Kp.trans ?_ (by assumption))))))).mono ?_; rintro e w5 ⟨rfl, k5⟩; have k15 : Kp w w5 := k14.trans (k46.trans ((show Kp w6 _ from (by (repeat (first | with_reducible assumption | with_reducible exact Kp.refl _ | with_reducible refine Kp.drew ?_ | with_reducible refine Kp.drewN ?_ _ | with_reducible refine Kp.alloc ?_ _ | ((with_reducible refine Kp.setCell ?_ ?_ _); rotate_left; (focus (first | omega | (simp; done) | (simp; omega)))) | with_reducible refine Kp.trans ?_ (by assumption))))).trans k5))))
        refine (CG2.out _ (k15.trans (show Kp w5 _ from (by (repeat (first | with_reducible assumption | with_reducible exact Kp.refl _ | with_reducible refine Kp.drew ?_ | with_reducible refine Kp.drewN ?_ _ | with_reducible refine Kp.alloc ?_ _ | ((with_reducible refine Kp.setCell ?_ ?_ _); rotate_left; (focus (first | omega | (simp; done) | (simp; omega)))) | with_reducible refine Kp.trans ?_ (by assumption))))))).mono ?_
        intro e w7 h7
        obtain ⟨yy, z, t, rfl, hyy, k7, hzt, hwt⟩ := read_write h7 HS3.out
        have k57 : Kp w w7 := k15.trans ((show Kp w5 _ from (by (repeat (first | with_reducible assumption | with_reducible exact Kp.refl _ | with_reducible refine Kp.drew ?_ | with_reducible refine Kp.drewN ?_ _ | with_reducible refine Kp.alloc ?_ _ | ((with_reducible refine Kp.setCell ?_ ?_ _); rotate_left; (focus (first | omega | (simp; done) | (simp; omega)))) | with_reducible refine Kp.trans ?_ (by assumption))))).trans k7)
        have CWT : Hid (∀ w', Kp w7 w' → Calls Tryz.prog 10 #[.agg yy.L.toArray] w' fun e w'' => e = .returned (.tuple #[sv t, .bool true]) ∧ Kp w' w'') := Lib.hid fun w' k => hwt w' (HE.out.kp (k57.trans k)) k
        obtain ⟨Z, hZ⟩ : ∃ Z, yy.L = Z := ⟨_, rfl⟩
        have HZl : Hid (Z.length = 22) := Lib.hid (by rw [← hZ]; exact JobI.L_len hyy)
        have HZ1 : Hid (∀ v ∈ Z, v.oneCell' = true) := Lib.hid (by rw [← hZ]; exact JobI.L_one yy)
        rw [hZ] at CWT
        rw [hZ]
        clear h7 hyy hwt hZ k7
        by_cases hz : z = 0
        · have ht := hzt hz
          subst hz
          subst ht
          clear hzt
          go_wp2_with (first
            | (refine stRowW (vs := Z) rowJob rfl (.tmp 9) (.tmp 43) rfl (Blk.newL (cs := jobZ) rfl rfl) jobZ_len HZl.out HZ1.out rfl rfl ?_; intro w8 hb8 hoth8 hkp8 hsz8; have k78 : Kp w7 w8 := hkp8 (Nat.le_refl _) (show Kp w7 _ from (by (repeat (first | with_reducible assumption | with_reducible exact Kp.refl _ | with_reducible refine Kp.drew ?_ | with_reducible refine Kp.drewN ?_ _ | with_reducible refine Kp.alloc ?_ _ | ((with_reducible refine Kp.setCell ?_ ?_ _); rotate_left; (focus (first | omega | (simp; done) | (simp; omega)))) | with_reducible refine Kp.trans ?_ (by assumption))))); clear hoth8 hkp8 hsz8)
            | (refine ldRowAt rowJob rfl (.tmp 9) rfl (vs := Z) hb8.range HZl.out rfl ?_)
            | (go_at_call 10; refine (CWT.out _ (k78.trans (show Kp w8 _ from (by (repeat (first | with_reducible assumption | with_reducible exact Kp.refl _ | with_reducible refine Kp.drew ?_ | with_reducible refine Kp.drewN ?_ _ | with_reducible refine Kp.alloc ?_ _ | ((with_reducible refine Kp.setCell ?_ ?_ _); rotate_left; (focus (first | omega | (simp; done) | (simp; omega)))) | with_reducible refine Kp.trans ?_ (by assumption))))))).mono ?_; rintro e w9 ⟨rfl, k9⟩; have k79 : Kp w7 w9 := k78.trans ((show Kp w8 _ from (by (repeat (first | with_reducible assumption | with_reducible exact Kp.refl _ | with_reducible refine Kp.drew ?_ | with_reducible refine Kp.drewN ?_ _ | with_reducible refine Kp.alloc ?_ _ | ((with_reducible refine Kp.setCell ?_ ?_ _); rotate_left; (focus (first | omega | (simp; done) | (simp; omega)))) | with_reducible refine Kp.trans ?_ (by assumption))))).trans k9))
            | (go_at_call 5; refine (CAW.out _ (k57.trans (k79.trans (show Kp w9 _ from (by (repeat (first | with_reducible assumption | with_reducible exact Kp.refl _ | with_reducible refine Kp.drew ?_ | with_reducible refine Kp.drewN ?_ _ | with_reducible refine Kp.alloc ?_ _ | ((with_reducible refine Kp.setCell ?_ ?_ _); rotate_left; (focus (first | omega | (simp; done) | (simp; omega)))) | with_reducible refine Kp.trans ?_ (by assumption)))))))).mono ?_; rintro e w10 ⟨rfl, k10⟩))
          (try go_ret)
          exact ⟨rfl, k57.trans (k79.trans ((show Kp w9 _ from (by (repeat (first | with_reducible assumption | with_reducible exact Kp.refl _ | with_reducible refine Kp.drew ?_ | with_reducible refine Kp.drewN ?_ _ | with_reducible refine Kp.alloc ?_ _ | ((with_reducible refine Kp.setCell ?_ ?_ _); rotate_left; (focus (first | omega | (simp; done) | (simp; omega)))) | with_reducible refine Kp.trans ?_ (by assumption))))).trans k10))⟩
        · have q1 : (z == 0) = false := beq_eq_false_iff_ne.2 hz
          have q2 : (z != 0) = true := by simp [bne, q1]
          clear hzt
          go_wp2_with (first
            | (refine stRowW (vs := Z) rowJob rfl (.tmp 9) (.tmp 43) rfl (Blk.newL (cs := jobZ) rfl rfl) jobZ_len HZl.out HZ1.out rfl rfl ?_; intro w8 hb8 hoth8 hkp8 hsz8; have k78 : Kp w7 w8 := hkp8 (Nat.le_refl _) (show Kp w7 _ from (by (repeat (first | with_reducible assumption | with_reducible exact Kp.refl _ | with_reducible refine Kp.drew ?_ | with_reducible refine Kp.drewN ?_ _ | with_reducible refine Kp.alloc ?_ _ | ((with_reducible refine Kp.setCell ?_ ?_ _); rotate_left; (focus (first | omega | (simp; done) | (simp; omega)))) | with_reducible refine Kp.trans ?_ (by assumption))))); clear hoth8 hkp8 hsz8)
            | (refine ldRowAt rowJob rfl (.tmp 9) rfl (vs := Z) hb8.range HZl.out rfl ?_)
            | (go_at_call 10; refine (CWT.out _ (k78.trans (show Kp w8 _ from (by (repeat (first | with_reducible assumption | with_reducible exact Kp.refl _ | with_reducible refine Kp.drew ?_ | with_reducible refine Kp.drewN ?_ _ | with_reducible refine Kp.alloc ?_ _ | ((with_reducible refine Kp.setCell ?_ ?_ _); rotate_left; (focus (first | omega | (simp; done) | (simp; omega)))) | with_reducible refine Kp.trans ?_ (by assumption))))))).mono ?_; rintro e w9 ⟨rfl, k9⟩; have k79 : Kp w7 w9 := k78.trans ((show Kp w8 _ from (by (repeat (first | with_reducible assumption | with_reducible exact Kp.refl _ | with_reducible refine Kp.drew ?_ | with_reducible refine Kp.drewN ?_ _ | with_reducible refine Kp.alloc ?_ _ | ((with_reducible refine Kp.setCell ?_ ?_ _); rotate_left; (focus (first | omega | (simp; done) | (simp; omega)))) | with_reducible refine Kp.trans ?_ (by assumption))))).trans k9))
            | (go_at_call 5; refine (CAW.out _ (k57.trans (k79.trans (show Kp w9 _ from (by (repeat (first | with_reducible assumption | with_reducible exact Kp.refl _ | with_reducible refine Kp.drew ?_ | with_reducible refine Kp.drewN ?_ _ | with_reducible refine Kp.alloc ?_ _ | ((with_reducible refine Kp.setCell ?_ ?_ _); rotate_left; (focus (first | omega | (simp; done) | (simp; omega)))) | with_reducible refine Kp.trans ?_ (by assumption)))))))).mono ?_; rintro e w10 ⟨rfl, k10⟩))
          (try go_ret)
          exact ⟨rfl, k57.trans (k79.trans ((show Kp w9 _ from (by (repeat (first | with_reducible assumption | with_reducible exact Kp.refl _ | with_reducible refine Kp.drew ?_ | with_reducible refine Kp.drewN ?_ _ | with_reducible refine Kp.alloc ?_ _ | ((with_reducible refine Kp.setCell ?_ ?_ _); rotate_left; (focus (first | omega | (simp; done) | (simp; omega)))) | with_reducible refine Kp.trans ?_ (by assumption))))).trans k10))⟩
  · clear HB
    go_wp2_with (first
      | (go_at_call 5; refine (CAW.out _ (kw1.trans (k12.trans (show Kp w2 _ from (by (repeat (first | with_reducible assumption | with_reducible exact Kp.refl _ | with_reducible refine Kp.drew ?_ | with_reducible refine Kp.drewN ?_ _ | with_reducible refine Kp.alloc ?_ _ | ((with_reducible refine Kp.setCell ?_ ?_ _); rotate_left; (focus (first | omega | (simp; done) | (simp; omega)))) | with_reducible refine Kp.trans ?_ (by assumption)))))))).mono ?_; rintro e w3 ⟨rfl, k3⟩))
    (try go_ret)
    exact ⟨rfl, kw1.trans (k12.trans ((show Kp w2 _ from (by (repeat (first | with_reducible assumption | with_reducible exact Kp.refl _ | with_reducible refine Kp.drew ?_ | with_reducible refine Kp.drewN ?_ _ | with_reducible refine Kp.alloc ?_ _ | ((with_reducible refine Kp.setCell ?_ ?_ _); rotate_left; (focus (first | omega | (simp; done) | (simp; omega)))) | with_reducible refine Kp.trans ?_ (by assumption))))).trans k3))⟩
def Open.zero_job : Value := .agg #[.int .i64 0, .int .i64 0, .int .i64 0, .int .i64 0, .int .i64 0, .int .i64 0, .int .i64 0, .int .i64 0, .int .i64 0, .int .i64 0, .int .i64 0, .int .i64 0, .int .i64 0, .int .i64 0, .int .i64 0, .int .i64 0, .int .i64 0, .int .i64 0, .bool false, .slice none 0 0, .slice none 0 0, .slice none 0 0]
theorem scriptBack_row (x : JobI) (a : ByteArray) (w : World) (hx : x.good w) (ha : a.size ≤ 140737488351232) (he : Env w) :
    Calls Tryz.prog 4 #[.agg x.L.toArray, .string a] w fun e w' => e = .returned (.bool true) ∧ Kp w w' := by
  obtain ⟨⟨l⟩⟩ := a
  have hl : l.length ≤ 140737488351232 := ha
  exact scriptBack_main x l w he hx hl
end Go.Proofs.YtaekeogaakogbaaGreatDoor
