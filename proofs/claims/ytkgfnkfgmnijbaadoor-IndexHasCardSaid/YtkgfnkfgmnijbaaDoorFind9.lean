/- The pages of a mark: the program's and the document's; numbers that are the greatest; entries as the document's. -/
import Derived.Test.YtkgfnkfgmnijbaaDoorSort9

namespace Go.Proofs.YtkgfnkfgmnijbaaDoor

open Go.RowKit

theorem entsOfSl {w : World} {n : Nat} {α : Type} {enc : α → List Value} {a : Option Addr} {len cap : Nat} {l : List α} (h : SlOk w n enc a len cap l) (h0 : 0 < len) : ∃ b off, a = some ⟨b, off, none⟩ ∧ b < w.heap.size ∧ RowAt w n enc b off l := by
  obtain ⟨hl, _, _, hh⟩ := h
  rcases hh with e | hh
  · rw [e] at hl; simp at hl; omega
  · exact hh
def topsL (l : List Int) : Bool := l.any fun x => decide (x = 9223372036854775807)
set_option maxRecDepth 100000 in
set_option maxHeartbeats 1000000 in
theorem tops_any (a : Option Addr) (cap : Nat) (l : List Int) (w : World) (hl : SlOk w 1 enc1 a l.length cap l) :
    Calls Tryd.prog 7 #[.slice a l.length cap] w fun e w' => e = .returned (.bool (topsL l)) ∧ Kp w w' := by
  have HL := Lib.hid hl
  have hcl := hl.2.1
  have hcm := hl.2.2.1
  unfold maxLen at hcm
  clear hl
  go_enter Tryd.func7, Tryd.ntmps7
  go_wp2_with fail
  go_loopw [3] (fun v3 wr => ∃ (k : Nat), k ≤ l.length ∧ v3 = .int .i64 k ∧ topsL (l.take k) = false ∧ Kp w wr) (fun v3 _ => l.length - (intOf v3).toNat)
  case atStart => exact ⟨0, Nat.zero_le _, rfl, rfl, (by (repeat (first | with_reducible assumption | with_reducible exact Kp.refl _ | with_reducible refine Kp.drew ?_ | with_reducible refine Kp.drewN ?_ _ | with_reducible refine Kp.alloc ?_ _ | ((with_reducible refine Kp.setCell ?_ ?_ _); rotate_left; (focus (first | omega | (simp; done) | (simp; omega)))) | with_reducible refine Kp.trans ?_ (by assumption))))⟩
  case round =>
    obtain ⟨k, hk, rfl, xt, xk⟩ := hrel
    by_cases hlt : k < l.length
    · obtain ⟨x, hx⟩ : ∃ x, l[k]? = some x := ⟨l[k]'hlt, List.getElem?_eq_getElem _⟩
      obtain ⟨ga, oa, rfl, hga, r1⟩ := entsOfSl (HL.out.kp xk) (by omega)
      have d0 := r1 k _ hx 0 _ rfl
      simp only [Nat.add_zero, Nat.mul_one] at d0
      have hs : l.take (k + 1) = l.take k ++ [x] := by rw [List.take_add_one, hx]; rfl
      have j1 : decide ((k : Int) < (l.length : Int)) = true := decide_eq_true (by omega)
      by_cases hc : x = 9223372036854775807
      · have e1 : (x == 9223372036854775807) = true := by simp [hc]
        have ht : topsL l = true := by
          unfold topsL
          rw [List.any_eq_true]
          exact ⟨x, List.mem_of_getElem? hx, by simp [hc]⟩
        have HT := Lib.hid ht
        clear r1 hx hs ht hc
        go_wp2_with fail
        (try go_ret)
        exact ⟨by rw [HT.out]; rfl, xk⟩
      · have e1 : (x == 9223372036854775807) = false := by simpa using hc
        have hn : topsL (l.take (k + 1)) = false := by
          rw [hs]; unfold topsL at xt ⊢
          rw [List.any_append, xt]; simp [hc]
        have HT := Lib.hid hn
        clear r1 hx hs hn hc xt
        go_wp2_with fail
        go_roundw
        case rel => exact ⟨k + 1, by omega, by go_num, HT.out, xk⟩
        case measure => simp [intOf]; omega
    · obtain rfl : k = l.length := by omega
      have j1 : decide ((l.length : Int) < (l.length : Int)) = false := decide_eq_false (by omega)
      rw [List.take_length] at xt
      have HT := Lib.hid xt
      clear xt
      go_wp2_with fail
      (try go_ret)
      exact ⟨by rw [HT.out]; rfl, xk⟩
/-- The entry of a mark. -/
def entOf (l : List Ent) (n : Int) : Option Ent := l.find? fun x => decide (x.n = n)
def pagesOf (l : List Ent) (n : Int) : List Int := match entOf l n with
  | none => []
  | some x => x.s.l
theorem entOf_snoc {l : List Ent} {k : Nat} {x : Ent} (hx : l[k]? = some x) (n : Int) (h : entOf (l.take k) n = none) (hn : x.n ≠ n) : entOf (l.take (k + 1)) n = none := by
  unfold entOf at h ⊢
  rw [List.take_add_one, hx, List.find?_append, h]
  simp [hn]
theorem entOf_hit {l : List Ent} {k : Nat} {x : Ent} (hx : l[k]? = some x) (n : Int) (h : entOf (l.take k) n = none) (hn : x.n = n) : entOf l n = some x := by
  unfold entOf at h ⊢
  have e : l = l.take (k + 1) ++ l.drop (k + 1) := (List.take_append_drop _ _).symm
  rw [e, List.take_add_one, hx, List.find?_append, List.find?_append, h]
  simp [hn]
set_option maxRecDepth 100000 in
set_option maxHeartbeats 1000000 in
theorem refFind_any (a : Option Addr) (cap : Nat) (l : List Ent) (n : Int) (w : World) (hl : SlOk w 2 Ent.cells a l.length cap l) (hg : ∀ y, y ∈ l → y.good w) :
    Calls Tryd.prog 17 #[.slice a l.length cap, .int .i64 n] w fun e w' => (∃ ra rc, e = .returned (.slice ra (pagesOf l n).length rc) ∧ SlOk w' 1 enc1 ra (pagesOf l n).length rc (pagesOf l n)) ∧ Kp w w' := by
  have HL := Lib.hid hl
  have HG := Lib.hid hg
  have hcl := hl.2.1
  have hcm := hl.2.2.1
  unfold maxLen at hcm
  clear hl hg
  go_enter Tryd.func17, Tryd.ntmps17
  go_wp2_with fail
  go_loopw [5] (fun v5 wr => ∃ (k : Nat), k ≤ l.length ∧ v5 = .int .i64 k ∧ entOf (l.take k) n = none ∧ Kp w wr) (fun v5 _ => l.length - (intOf v5).toNat)
  case atStart => exact ⟨0, Nat.zero_le _, rfl, rfl, (by (repeat (first | with_reducible assumption | with_reducible exact Kp.refl _ | with_reducible refine Kp.drew ?_ | with_reducible refine Kp.drewN ?_ _ | with_reducible refine Kp.alloc ?_ _ | ((with_reducible refine Kp.setCell ?_ ?_ _); rotate_left; (focus (first | omega | (simp; done) | (simp; omega)))) | with_reducible refine Kp.trans ?_ (by assumption))))⟩
  case round =>
    obtain ⟨k, hk, rfl, xt, xk⟩ := hrel
    by_cases hlt : k < l.length
    · obtain ⟨x, hx⟩ : ∃ x, l[k]? = some x := ⟨l[k]'hlt, List.getElem?_eq_getElem _⟩
      obtain ⟨ga, oa, rfl, hga, r1⟩ := entsOfSl (HL.out.kp xk) (by omega)
      have hgx := HG.out x (List.mem_of_getElem? hx)
      have hh := fun h => entOf_hit hx n xt h
      have hm := fun h => entOf_snoc hx n xt h
      obtain ⟨xn, ⟨sa, sl, sc, ss⟩⟩ := x
      have d0 := r1 k _ hx 0 _ rfl
      have d1 := r1 k _ hx 1 _ rfl
      simp only [Nat.add_zero] at d0 d1 hh hm
      have j1 : decide ((k : Int) < (l.length : Int)) = true := decide_eq_true (by omega)
      by_cases hc : xn = n
      · have e1 : (xn == n) = true := by simp [hc]
        have hp : pagesOf l n = ss := by unfold pagesOf; rw [hh hc]
        have hgl := hgx.len
        have hgs := hgx.s
        simp only at hgl hgs
        have HP := Lib.hid hp
        have HS := Lib.hid hgs
        clear r1 hx hh hm hp hc hgx hgs xt
        go_wp2_with fail
        (try go_ret)
        refine ⟨?_, xk⟩
        rw [HP.out]
        exact ⟨sa, sc, rfl, HS.out.kp xk⟩
      · have e1 : (xn == n) = false := by simpa using hc
        have HT := Lib.hid (hm hc)
        clear r1 hx hh hm hc hgx xt
        go_wp2_with fail
        go_roundw
        case rel => exact ⟨k + 1, by omega, by go_num, HT.out, xk⟩
        case measure => simp [intOf]; omega
    · obtain rfl : k = l.length := by omega
      have j1 : decide ((l.length : Int) < (l.length : Int)) = false := decide_eq_false (by omega)
      rw [List.take_length] at xt
      have hp : pagesOf l n = [] := by unfold pagesOf; rw [xt]
      have HP := Lib.hid hp
      clear xt hp
      go_wp2_with fail
      (try go_ret)
      refine ⟨?_, xk⟩
      rw [HP.out]
      exact ⟨none, 0, rfl, rfl, Nat.le_refl _, Nat.zero_le _, .inl rfl⟩
set_option maxRecDepth 100000 in
theorem is_any (x : Ent) (n : Int) (b : Nat) (w : World) (hb : w.cell? ⟨b, 0, none⟩ = some (.int .i64 n)) (hbl : b < w.heap.size) : Calls Tryd.prog 31 #[.agg x.cells.toArray, .pointer (some ⟨b, 0, none⟩)] w fun e w' => e = .returned (.bool (x.n == n)) ∧ Kp w w' := by
  obtain ⟨m, ⟨a, len, cap, l⟩⟩ := x
  unfold Ent.cells
  simp only
  go_enter Tryd.func31, Tryd.ntmps31
  go_wp2_with fail
  (try go_ret)
  exact ⟨rfl, (by (repeat (first | with_reducible assumption | with_reducible exact Kp.refl _ | with_reducible refine Kp.drew ?_ | with_reducible refine Kp.drewN ?_ _ | with_reducible refine Kp.alloc ?_ _ | ((with_reducible refine Kp.setCell ?_ ?_ _); rotate_left; (focus (first | omega | (simp; done) | (simp; omega)))) | with_reducible refine Kp.trans ?_ (by assumption))))⟩
def placeOf (l : List Ent) (n : Int) : Int := match l.findIdx? fun x => decide (x.n = n) with
  | none => -1
  | some k => k
theorem find?_none_idx {l : List Ent} {n : Int} (h : entOf l n = none) : placeOf l n = -1 := by
  unfold placeOf
  have : (l.findIdx? fun x => decide (x.n = n)) = none := by
    rw [List.findIdx?_eq_none_iff]
    unfold entOf at h
    rw [List.find?_eq_none] at h
    intro x hx
    simpa using h x hx
  rw [this]
set_option maxRecDepth 100000 in
set_option maxHeartbeats 1000000 in
theorem indexFunc_any (a : Option Addr) (cap : Nat) (l : List Ent) (n : Int) (b : Nat) (w : World) (hl : SlOk w 2 Ent.cells a l.length cap l) (hb : w.cell? ⟨b, 0, none⟩ = some (.int .i64 n)) (hbl : b < w.heap.size) :
    Calls Tryd.prog 30 #[.slice a l.length cap, .func (.func 31) #[] #[.pointer (some ⟨b, 0, none⟩)]] w fun e w' => ((e = .returned (.int .i64 (-1)) ∧ entOf l n = none) ∨ ∃ k x, e = .returned (.int .i64 ((k : Nat) : Int)) ∧ l[k]? = some x ∧ entOf l n = some x) ∧ Kp w w' := by
  have C : Hid (∀ (x : Ent) w', Kp w w' → Calls Tryd.prog 31 #[.agg x.cells.toArray, .pointer (some ⟨b, 0, none⟩)] w' fun e w'' => e = .returned (.bool (x.n == n)) ∧ Kp w' w'') := Lib.hid fun x w' k => is_any x n b w' ((Kp.cell k (p := ⟨b, 0, none⟩) hbl).trans hb) (Nat.lt_of_lt_of_le hbl (Kp.size k))
  have HL := Lib.hid hl
  have hcl := hl.2.1
  have hcm := hl.2.2.1
  unfold maxLen at hcm
  have eg : ∀ args w, (callFunc 31 args).run Tryd.prog w = .ok (.enter 31 args) w := enters_of Tryd.func31 (by kernel_rfl) rfl
  clear hl hb
  go_enter Tryd.func30, Tryd.ntmps30
  go_wp2_with fail
  go_loopw [8] (fun v8 wr => ∃ (k : Nat), k ≤ l.length ∧ v8 = .int .i64 k ∧ entOf (l.take k) n = none ∧ Kp w wr) (fun v8 _ => l.length - (intOf v8).toNat)
  case atStart => exact ⟨0, Nat.zero_le _, rfl, rfl, (by (repeat (first | with_reducible assumption | with_reducible exact Kp.refl _ | with_reducible refine Kp.drew ?_ | with_reducible refine Kp.drewN ?_ _ | with_reducible refine Kp.alloc ?_ _ | ((with_reducible refine Kp.setCell ?_ ?_ _); rotate_left; (focus (first | omega | (simp; done) | (simp; omega)))) | with_reducible refine Kp.trans ?_ (by assumption))))⟩
  case round =>
    obtain ⟨k, hk, rfl, xt, xk⟩ := hrel
    by_cases hlt : k < l.length
    · obtain ⟨x, hx⟩ : ∃ x, l[k]? = some x := ⟨l[k]'hlt, List.getElem?_eq_getElem _⟩
      obtain ⟨ga, oa, rfl, hga, r1⟩ := entsOfSl (HL.out.kp xk) (by omega)
      have hh := fun h => entOf_hit hx n xt h
      have hm := fun h => entOf_snoc hx n xt h
      have CX := Lib.hid (C.out x)
      obtain ⟨xn, ⟨sa, sl, sc, ss⟩⟩ := x
      have d0 := r1 k _ hx 0 _ rfl
      have d1 := r1 k _ hx 1 _ rfl
      simp only [Nat.add_zero] at d0 d1 hh hm CX
      unfold Ent.cells at CX
      simp only at CX
      have j1 : decide ((k : Int) < (l.length : Int)) = true := decide_eq_true (by omega)
      have HH := Lib.hid hh
      have HM := Lib.hid hm
      have HX := Lib.hid hx
      clear r1 hx hh hm xt C
      by_cases hc : xn = n
      · have e1 : (xn == n) = true := by simp [hc]
        have HC := Lib.hid hc
        rw [e1] at CX
        clear hc
        go_wp2_with fail
        refine (CX.out _ xk).mono ?_
        rintro e w2 ⟨rfl, k2⟩
        go_wp2_with fail
        (try go_ret)
        exact ⟨.inr ⟨k, _, rfl, HX.out, HH.out HC.out⟩, xk.trans k2⟩
      · have e1 : (xn == n) = false := by simpa using hc
        rw [e1] at CX
        go_wp2_with fail
        refine (CX.out _ xk).mono ?_
        rintro e w2 ⟨rfl, k2⟩
        have xk2 := xk.trans k2
        go_wp2_with fail
        go_roundw
        case rel => exact ⟨k + 1, by omega, by go_num, HM.out hc, xk2⟩
        case measure => simp [intOf]; omega
    · obtain rfl : k = l.length := by omega
      have j1 : decide ((l.length : Int) < (l.length : Int)) = false := decide_eq_false (by omega)
      rw [List.take_length] at xt
      have HP := Lib.hid xt
      clear xt
      go_wp2_with fail
      (try go_ret)
      exact ⟨.inl ⟨rfl, HP.out⟩, xk⟩
theorem flat_enc1 : ∀ l : List Int, l.flatMap enc1 = l.map (Value.int .i64)
  | [] => rfl
  | x :: l => by rw [List.flatMap_cons, flat_enc1 l]; rfl
theorem cloneInts (a : Option Addr) (len cap : Nat) (l : List Int) (w : World) (h : SlOk w 1 enc1 a len cap l) (hb : len ≤ 100000) :
    Calls Tryd.prog 32 #[.slice a len cap] w fun e w' => (∃ ra rc, e = .returned (.slice ra l.length rc) ∧ SlOk w' 1 enc1 ra l.length rc l) ∧ Kp w w' := by
  have hl := h.1
  cases a with
  | none =>
    rcases Nat.eq_zero_or_pos len with h0 | h0
    · obtain rfl : l = [] := List.eq_nil_of_length_eq_zero (by omega)
      refine (Tryd.slices_Clone_int_nil len cap w).mono ?_
      rintro e w' ⟨rfl, rfl⟩
      exact ⟨⟨none, 0, rfl, rfl, Nat.le_refl _, Nat.zero_le _, .inl rfl⟩, Kp.refl _⟩
    · obtain ⟨b, off, hh, _⟩ := entsOfSl h h0
      cases hh
  | some ad =>
    rcases Nat.eq_zero_or_pos len with h0 | h0
    · subst h0
      obtain rfl : l = [] := List.eq_nil_of_length_eq_zero (by omega)
      refine (Tryd.slices_Clone_int_zero ad cap w).mono ?_
      rintro e w' ⟨v', rfl, hr, _, hk⟩
      have hrow : Row w' w.heap.size 3 1 enc1 v' [] := hr
      obtain ⟨ra, rc, rfl, hs⟩ := hrow.sl (fun _ => rfl)
      exact ⟨⟨ra, rc, rfl, hs⟩, hk⟩
    · obtain ⟨b, off, hh, _, hr⟩ := entsOfSl h h0
      cases hh
      refine (Tryd.slices_Clone_int b off len cap l w (by omega) (by omega) (fun j hj => ?_)).mono ?_
      · have hx : l[j]? = some l[j] := List.getElem?_eq_getElem hj
        have := hr j _ hx 0 _ rfl
        rw [Nat.mul_one, Nat.add_zero] at this
        rw [this]
        simp [List.getD, hx]
      · rintro e w' ⟨v', rfl, hr, _, hk⟩
        have hrow : Row w' w.heap.size 3 1 enc1 v' l := by
          unfold Row
          rw [hl, flat_enc1]
          rw [List.take_of_length_le (by omega)] at hr
          exact hr
        obtain ⟨ra, rc, rfl, hs⟩ := hrow.sl (fun _ => rfl)
        exact ⟨⟨ra, rc, rfl, hs⟩, hk⟩
set_option maxRecDepth 100000 in
set_option maxHeartbeats 1000000 in
theorem find_any (a : Option Addr) (cap : Nat) (l : List Ent) (n : Int) (w : World) (hl : SlOk w 2 Ent.cells a l.length cap l) (hg : ∀ y, y ∈ l → y.good w) :
    Calls Tryd.prog 16 #[.slice a l.length cap, .int .i64 n] w fun e w' => (∃ ra rc, e = .returned (.slice ra (pagesOf l n).length rc) ∧ SlOk w' 1 enc1 ra (pagesOf l n).length rc (pagesOf l n)) ∧ Kp w w' := by
  have HL := Lib.hid hl
  have HG := Lib.hid hg
  have hcl := hl.2.1
  have hcm := hl.2.2.1
  unfold maxLen at hcm
  clear hl hg
  go_enter Tryd.func16, Tryd.ntmps16
  go_wp2_with fail
  have kp1 : Kp w (w.alloc (.cells #[.int .i64 n] 3)) := (by (repeat (first | with_reducible assumption | with_reducible exact Kp.refl _ | with_reducible refine Kp.drew ?_ | with_reducible refine Kp.drewN ?_ _ | with_reducible refine Kp.alloc ?_ _ | ((with_reducible refine Kp.setCell ?_ ?_ _); rotate_left; (focus (first | omega | (simp; done) | (simp; omega)))) | with_reducible refine Kp.trans ?_ (by assumption))))
  refine (indexFunc_any a cap l n w.heap.size _ (HL.out.kp kp1) (Blk.cell (Blk.new w [.int .i64 n] 3) 0 rfl) (by simp)).mono ?_
  rintro e w2 ⟨⟨rfl, he⟩ | ⟨k, x, rfl, hx, he⟩, k2⟩
  · have k3 := kp1.trans k2
    have hp : pagesOf l n = [] := by unfold pagesOf; rw [he]
    have HP := Lib.hid hp
    clear hp he k2 kp1
    go_wp2_with fail
    (try go_ret)
    refine ⟨?_, k3⟩
    rw [HP.out]
    exact ⟨none, 0, rfl, rfl, Nat.le_refl _, Nat.zero_le _, .inl rfl⟩
  · have k3 := kp1.trans k2
    have hk : k < l.length := (List.getElem?_eq_some_iff.1 hx).1
    obtain ⟨ga, oa, rfl, hga, r1⟩ := entsOfSl (HL.out.kp k3) (by omega)
    have hgx := HG.out x (List.mem_of_getElem? hx)
    have hp : pagesOf l n = x.s.l := by unfold pagesOf; rw [he]
    have CC := fun w' (kk : Kp w w') => cloneInts x.s.a x.s.len x.s.cap x.s.l w' (by have := hgx.s.kp kk; rwa [← hgx.len] at this) (by have := hgx.few; have := hgx.len; omega)
    obtain ⟨xn, ⟨sa, sl, sc, ss⟩⟩ := x
    have d1 := r1 k _ hx 1 _ rfl
    have CCH := Lib.hid CC
    have HP := Lib.hid hp
    simp only at CCH HP
    have j1 : decide ((k : Int) < 0) = false := decide_eq_false (by omega)
    clear r1 hx hp he hgx CC k2 kp1
    go_wp2_with fail
    refine (CCH.out _ k3).mono ?_
    rintro e w4 ⟨⟨ra, rc, rfl, hs⟩, k4⟩
    go_wp2_with fail
    (try go_ret)
    refine ⟨?_, k3.trans k4⟩
    rw [HP.out]
    exact ⟨ra, rc, rfl, hs⟩
theorem infoE2 : (Tryd.prog.info? 45).map (fun i => (i.zero, i.size, i.bytes)) = some (some (.agg #[.int .i64 0, .slice none 0 0]), 2, 32) := by kernel_rfl
set_option maxRecDepth 100000 in
set_option maxHeartbeats 2000000 in
theorem plain_any (a : Option Addr) (cap : Nat) (l : List Ent) (w : World) (hl : SlOk w 2 Ent.cells a l.length cap l) (h1 : l.length ≤ 100000) :
    Calls Tryd.prog 12 #[.slice a l.length cap] w fun e w' => ∃ v, e = .returned v ∧ Row w' w.heap.size 45 2 Ent.cells v l ∧ Kp w w' := by
  have HL := Lib.hid hl
  have hcl := hl.2.1
  have hcm := hl.2.2.1
  unfold maxLen at hcm
  clear hl
  go_enter Tryd.func12, Tryd.ntmps12
  go_wp2_with fail
  go_loopw [3, 4] (fun vo vi wr => ∃ (k : Nat), k ≤ l.length ∧ vi = .int .i64 k ∧ Row wr w.heap.size 45 2 Ent.cells vo (l.take k) ∧ Kp w wr) (fun _ vi _ => l.length - (intOf vi).toNat)
  case atStart => exact ⟨0, Nat.zero_le _, rfl, Row.nil _ _ _ _ _, (by (repeat (first | with_reducible assumption | with_reducible exact Kp.refl _ | with_reducible refine Kp.drew ?_ | with_reducible refine Kp.drewN ?_ _ | with_reducible refine Kp.alloc ?_ _ | ((with_reducible refine Kp.setCell ?_ ?_ _); rotate_left; (focus (first | omega | (simp; done) | (simp; omega)))) | with_reducible refine Kp.trans ?_ (by assumption))))⟩
  case round =>
    obtain ⟨k, hk, rfl, xr, xk⟩ := hrel
    by_cases hlt : k < l.length
    · obtain ⟨x, hx⟩ : ∃ x, l[k]? = some x := ⟨l[k]'hlt, List.getElem?_eq_getElem _⟩
      have hsn : l.take (k + 1) = l.take k ++ [x] := by rw [List.take_add_one, hx]; rfl
      obtain ⟨ga, oa, rfl, hga0, r0⟩ := entsOfSl HL.out (by omega)
      have hga : ga < wr.heap.size := Nat.lt_of_lt_of_le hga0 xk.size
      obtain ⟨xn, ⟨sa, sl, sc, ss⟩⟩ := x
      have d0 := (r0.kp xk hga0) k _ hx 0 _ rfl
      have d1 := (r0.kp xk hga0) k _ hx 1 _ rfl
      simp only [Nat.add_zero] at d0 d1
      have j1 : decide ((k : Int) < (l.length : Int)) = true := decide_eq_true (by omega)
      have hll : (l.take k).length = k := by rw [List.length_take]; omega
      obtain ⟨rs, hrs⟩ : ∃ rs, l.take k = rs := ⟨_, rfl⟩
      rw [hrs] at xr hsn hll
      have HSN := Lib.hid hsn
      obtain ⟨va, vc, rfl, _⟩ := xr.sl (fun _ => rfl)
      have XR := Lib.hid xr
      have HLL := Lib.hid hll
      clear r0 hx hrs hsn xr hll
      go_wp2_with fail
      (refine wp_region_held_drew (S := (fun w' => (∀ b o, b < w.heap.size → w'.cell? ⟨b, o, none⟩ = wr.cell? ⟨b, o, none⟩) ∧ Kp w w')) (by kernel_rfl) ?_ (fun hHd => ?_); (focus ((try dsimp only); exact lo_of xk (by (repeat (first | with_reducible assumption | with_reducible exact Kp.refl _ | with_reducible refine Kp.drew ?_ | with_reducible refine Kp.drewN ?_ _ | with_reducible refine Kp.alloc ?_ _ | ((with_reducible refine Kp.setCell ?_ ?_ _); rotate_left; (focus (first | omega | (simp; done) | (simp; omega)))) | with_reducible refine Kp.trans ?_ (by assumption)))))))
      (refine takeH (i := 0) (oi := ?o1) (v := ?v1) ?h1 (by kernel_rfl) ?q1 (Or.inl ⟨?w1, ?y1⟩) (by assumption) ?r1; (case h1 => ((simp only [g1, g3]); rfl)); (case q1 => exact fun _ _ _ h => h); (case w1 => rfl); (case y1 => (intro w' hSw; (try dsimp only at hSw); go_simp; (try with_reducible rfl))); (try simp only [Act.put, s1, s2, s3]))
      (refine takeH (i := 1) (oi := ?o2) (v := ?v2) ?h2 (by kernel_rfl) ?q2 (Or.inl ⟨?w2, ?y2⟩) (by assumption) ?r2; (case h2 => ((simp only [g1, g2, g3]); rfl)); (case q2 => exact fun _ _ _ h => h); (case w2 => rfl); (case y2 => (intro w' hSw; (try dsimp only at hSw); go_simp; (try with_reducible rfl))); (try simp only [Act.put, s1, s2, s3]))
      (refine takeH (i := 2) (oi := ?o3) (v := ?v3) ?h3 (by kernel_rfl) ?q3 (Or.inl ⟨?w3, ?y3⟩) (by assumption) ?r3; (case h3 => ((simp only [g1, g2, g3]); rfl)); (case q3 => exact fun _ _ _ h => h); (case w3 => rfl); (case y3 => (intro w' hSw; (try dsimp only at hSw); go_simp; (try with_reducible rfl))); (try simp only [Act.put, s1, s2, s3]))
      (refine takeH (i := 3) (oi := ?o4) (v := ?v4) ?h4 (by kernel_rfl) ?q4 (Or.inl ⟨?w4, ?y4⟩) (by assumption) ?r4; (case h4 => ((simp only [g1, g2, g3]); rfl)); (case q4 => exact fun _ _ _ h => h); (case w4 => rfl); (case y4 => (intro w' hSw; (try dsimp only at hSw); go_simp; (try with_reducible rfl))); (try simp only [Act.put, s1, s2, s3]))
      (refine takeH (i := 4) (oi := ?o5) (v := ?v5) ?h5 (by kernel_rfl) ?q5 (Or.inl ⟨?w5, ?y5⟩) (by assumption) ?r5; (case h5 => ((simp only [g1, g2, g3]); rfl)); (case q5 => exact fun _ _ _ h => h); (case w5 => rfl); (case y5 => (intro w' hSw; (try dsimp only at hSw); go_simp; (try with_reducible rfl))); (try simp only [Act.put, s1, s2, s3]))
      (refine takeH (i := 5) (oi := ?o6) (v := ?v6) ?h6 (by kernel_rfl) ?q6 (Or.inl ⟨?w6, ?y6⟩) (by assumption) ?r6; (case h6 => ((simp only [g1, g2, g3]); rfl)); (case q6 => exact fun _ _ _ h => h); (case w6 => rfl); (case y6 => (intro w' hSw; (try dsimp only at hSw); go_simp; (try with_reducible rfl))); (try simp only [Act.put, s1, s2, s3]))
      (refine takeH (i := 6) (oi := ?o7) (v := ?v7) ?h7 (by kernel_rfl) ?q7 (Or.inl ⟨?w7, ?y7⟩) (by assumption) ?r7; (case h7 => ((simp only [g1, g2, g3]); rfl)); (case q7 => exact fun _ _ _ h => h); (case w7 => rfl); (case y7 => (intro w' hSw; (try dsimp only at hSw); go_simp; (try with_reducible rfl))); (try simp only [Act.put, s1, s2, s3]))
      (refine takeH (i := 7) (oi := ?o8) (v := ?v8) ?h8 (by kernel_rfl) ?q8 (Or.inl ⟨?w8, ?y8⟩) (by assumption) ?r8; (case h8 => ((simp only [g1, g2, g3]); rfl)); (case q8 => exact fun _ _ _ h => h); (case w8 => rfl); (case y8 => (intro w' hSw; (try dsimp only at hSw); go_simp; (try with_reducible rfl))); (try simp only [Act.put, s1, s2, s3]))
      (refine takeH (i := 8) (oi := ?o9) (v := ?v9) ?h9 (by kernel_rfl) ?q9 (Or.inl ⟨?w9, ?y9⟩) (by assumption) ?r9; (case h9 => ((simp only [g1, g2, g3]); rfl)); (case q9 => exact fun _ _ _ h => h); (case w9 => rfl); (case y9 => (intro w' hSw; (try dsimp only at hSw); go_simp; (try with_reducible rfl))); (try simp only [Act.put, s1, s2, s3]))
      (refine takeH (i := 9) (oi := ?o10) (v := ?v10) ?h10 (by kernel_rfl) ?q10 (Or.inl ⟨?w10, ?y10⟩) (by assumption) ?r10; (case h10 => ((simp only [g1, g2, g3]); rfl)); (case q10 => exact fun _ _ _ h => h); (case w10 => rfl); (case y10 => (intro w' hSw; (try dsimp only at hSw); go_simp; (try with_reducible rfl))); (try simp only [Act.put, s1, s2, s3]))
      (refine takeH (i := 10) (oi := ?o11) (v := ?v11) ?h11 (by kernel_rfl) ?q11 (Or.inl ⟨?w11, ?y11⟩) (by assumption) ?r11; (case h11 => ((simp only [g1, g2, g3]); rfl)); (case q11 => exact fun _ _ _ h => h); (case w11 => rfl); (case y11 => (intro w' hSw; (try dsimp only at hSw); go_simp; (try with_reducible rfl))); (try simp only [Act.put, s1, s2, s3]))
      (refine takeH (i := 11) (oi := ?o12) (v := ?v12) ?h12 (by kernel_rfl) ?q12 (Or.inl ⟨?w12, ?y12⟩) (by assumption) ?r12; (case h12 => ((simp only [g1, g2, g3]); rfl)); (case q12 => exact fun _ _ _ h => h); (case w12 => rfl); (case y12 => (intro w' hSw; (try dsimp only at hSw); go_simp; (try with_reducible rfl))); (try simp only [Act.put, s1, s2, s3]))
      (refine wpAnyH_ready (rs := [12]) (by kernel_rfl) (by simp) ?_; refine AllReadyH.cons (o := ?o13) ?h13 (fun K hK => ?s13) AllReadyH.nil; (case h13 => (first | ((simp only [g1, g2, g3]); rfl) | rfl)); go_simp; (try dsimp only); refine hK.out _ _ ?_ (fun hHd => ?_); (focus ((try dsimp only); exact lo_of xk (by (repeat (first | with_reducible assumption | with_reducible exact Kp.refl _ | with_reducible refine Kp.drew ?_ | with_reducible refine Kp.drewN ?_ _ | with_reducible refine Kp.alloc ?_ _ | ((with_reducible refine Kp.setCell ?_ ?_ _); rotate_left; (focus (first | omega | (simp; done) | (simp; omega)))) | with_reducible refine Kp.trans ?_ (by assumption)))))); clear hK K; (try simp only [Act.put, s1, s2, s3]))
      (refine wpAnyH_ready (rs := [13]) (by kernel_rfl) (by simp) ?_; refine AllReadyH.cons (o := ?o14) ?h14 (fun K hK => ?s14) AllReadyH.nil; (case h14 => (first | ((simp only [g1, g2, g3]); rfl) | rfl)); (refine rowAppendW (.tmp 11) (.tmp 23) 37 ?ho15 Tryd.underlying37 infoE2 rfl (by decide) (Row.alloc (Row.drew XR.out) _) ?hs15 (y := (⟨xn, ⟨sa, sl, sc, ss⟩⟩ : Ent)) rfl (Ent.cells_one _) (show Blk _ wr.heap.size (Ent.cells ⟨xn, ⟨sa, sl, sc, ss⟩⟩) 45 from (by (repeat (first | with_reducible assumption | ((with_reducible refine Blk.newL ?_ ?_); (focus (first | (simp; done) | omega)); rfl) | with_reducible refine Blk.drew ?_ | with_reducible refine Blk.drewN ?_ _ | with_reducible refine Blk.alloc ?_ _ | ((with_reducible refine Blk.other ?_ ?_ _); rotate_left; (focus (first | with_reducible assumption | omega | (simp; done) | (simp; omega)))))))) ?hx15 ?hl15 ?hb15 ?hz15 ?_; (case ho15 => rfl); (case hs15 => rfl); (case hx15 => rfl); (case hl15 => have := HLL.out; unfold maxLen; omega); (case hb15 => have := HLL.out; omega); (case hz15 => have := xk.size; simp; omega); intro v' w' hr' hkk hsz); refine hK.out _ _ ?_ (fun hHd => ?_); (focus ((try dsimp only); exact lo_of xk (hkk (Nat.le_refl _) (by (repeat (first | with_reducible assumption | with_reducible exact Kp.refl _ | with_reducible refine Kp.drew ?_ | with_reducible refine Kp.drewN ?_ _ | with_reducible refine Kp.alloc ?_ _ | ((with_reducible refine Kp.setCell ?_ ?_ _); rotate_left; (focus (first | omega | (simp; done) | (simp; omega)))) | with_reducible refine Kp.trans ?_ (by assumption))))))); clear hK K; (try simp only [Act.put]))
      (refine takeH (i := 14) (oi := ?o16) (v := ?v16) ?h16 (by kernel_rfl) ?q16 (Or.inl ⟨?w16, ?y16⟩) (by assumption) ?r16; (case h16 => ((simp only [g1, g2, g3]); rfl)); (case q16 => exact fun _ _ _ h => h); (case w16 => rfl); (case y16 => (intro w' hSw; (try dsimp only at hSw); go_simp; (try with_reducible rfl))); (try simp only [Act.put, s1, s2, s3]))
      refine wpAnyH_done (by kernel_rfl) ?_ _
      all_goals
        go_wp2_with fail
        go_roundw
        case rel => exact ⟨k + 1, by omega, by go_num, by rw [HSN.out]; exact hr', hkk (Nat.le_refl _) (by (repeat (first | with_reducible assumption | with_reducible exact Kp.refl _ | with_reducible refine Kp.drew ?_ | with_reducible refine Kp.drewN ?_ _ | with_reducible refine Kp.alloc ?_ _ | ((with_reducible refine Kp.setCell ?_ ?_ _); rotate_left; (focus (first | omega | (simp; done) | (simp; omega)))) | with_reducible refine Kp.trans ?_ (by assumption))))⟩
        case measure => simp [intOf]; omega
    · obtain rfl : k = l.length := by omega
      have j1 : decide ((l.length : Int) < (l.length : Int)) = false := decide_eq_false (by omega)
      rw [List.take_length] at xr
      have XR := Lib.hid xr
      clear xr
      go_wp2_with fail
      (try go_ret)
      exact ⟨_, rfl, XR.out, xk⟩
end Go.Proofs.YtkgfnkfgmnijbaaDoor
