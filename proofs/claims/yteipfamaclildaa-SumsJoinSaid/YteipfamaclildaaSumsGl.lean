/- The glues of a piece of a list: the walk of Glues. -/
import Derived.Test.YteipfamaclildaaSumsOf

namespace Go.Proofs.Yteipfamaclildaa

open Go.RowKit

def Tot.cells6 (t : Tot) : List Value := [.int .i64 t.nat, .int .i64 t.s0, .int .i64 t.s1, .int .i64 t.s2, .int .i64 t.s3, .int .i64 t.shr]
/-- The totals of the glues. -/
def glues (l : List Item) : List Tot := (l.filter fun x => x.k == 2).map totI
theorem glues_snoc (l : List Item) (x : Item) : glues (l ++ [x]) = if x.k = 2 then glues l ++ [totI x] else glues l := by
  unfold glues
  rw [List.filter_append, List.map_append]
  by_cases h : x.k = 2
  · rw [if_pos h]; simp [h]
  · rw [if_neg h]; simp [h]
theorem glues_length (l : List Item) : (glues l).length ≤ l.length := by
  unfold glues; rw [List.length_map]; exact List.length_filter_le _ _

set_option maxRecDepth 100000 in
set_option maxHeartbeats 4000000 in
theorem glues_any {p : Nat} {a : Option Addr} {cap ba bb : Nat} {l : List Item} (x y : Int) {w : World} (h : SumsK w p a cap ba bb l l.length) (h4 : l.length ≤ 4096) :
    Calls Try.prog 18 #[.pointer (some ⟨p, 0, none⟩), .int .i64 x, .int .i64 y] w fun e w' => ∃ v, e = .returned v ∧ Row w' w.heap.size 31 6 Tot.cells6 v (glues (piece l x y)) ∧ Kp w w' := by
  have hw := within_of (.pointer (some ⟨p, 0, none⟩)) (l.length : Nat) x y (len_any h) ⟨_, rfl⟩
  by_cases hlt : max x 0 < min y (l.length : Nat)
  · obtain ⟨i, hi⟩ := Int.eq_ofNat_of_zero_le (show 0 ≤ max x 0 by omega)
    obtain ⟨j, hj⟩ := Int.eq_ofNat_of_zero_le (show 0 ≤ min y (l.length : Nat) by omega)
    have hij : i < j := by omega
    have hjl : j ≤ l.length := by omega
    have hp : (l.take j).drop i = piece l x y := by
      have h1 := piece_some hi hj hij
      rw [h1, List.drop_append, List.length_take, Nat.min_eq_left (by omega), Nat.sub_self, List.drop_eq_nil_of_le (by rw [List.length_take]; omega)]
      rfl
    rw [decide_eq_true hlt, hi, hj] at hw
    rw [← hp]
    rcases h.items.2.2.2 with e | ⟨b, off, rfl, hb, hrow⟩
    · rw [e] at hjl; simp at hjl; omega
    · have z0 := h.head.cell 0 rfl
      have hcap := h.items.2.1
      have hm := h.items.2.2.1
      unfold maxLen at hm
      have i1 : (0 : Int) ≤ (i : Int) := by omega
      have i2 : (i : Int) ≤ (j : Int) := by omega
      have i3 : (j : Int) ≤ (cap : Int) := by omega
      clear hlt hi hj hp h
      go_enter Try.func18, Try.ntmps18
      go_wp2_with (go_at_call 49; go_must (refine hw.mono ?_); rintro e w' ⟨rfl, rfl⟩)
      go_loopw [8, 29] (fun v8 v29 wr => ∃ (k : Nat), k ≤ j - i ∧ v29 = .int .i64 k ∧ Row wr w.heap.size 31 6 Tot.cells6 v8 (glues (((l.take j).drop i).take k)) ∧ Kp w wr) (fun _ v29 _ => (j - i) - (intOf v29).toNat)
      case atStart => exact ⟨0, by omega, rfl, by rw [List.take_zero]; exact Row.nil _ _ _ _ _, (by (repeat (first | with_reducible assumption | with_reducible exact Kp.refl _ | with_reducible refine Kp.drew ?_ | with_reducible refine Kp.drewN ?_ _ | with_reducible refine Kp.alloc ?_ _ | ((with_reducible refine Kp.setCell ?_ ?_ _); rotate_left; (focus (first | omega | (simp; done) | (simp; omega)))) | with_reducible refine Kp.trans ?_ (by assumption))))⟩
      case round =>
        obtain ⟨k, hk, rfl, xr, xk⟩ := hrel
        by_cases hlt : k < j - i
        · obtain ⟨y', hy⟩ : ∃ y, l[i + k]? = some y := ⟨l[i + k]'(by omega), List.getElem?_eq_getElem _⟩
          have hpk : ((l.take j).drop i)[k]? = some y' := by rw [List.getElem?_drop, List.getElem?_take_of_lt (by omega)]; exact hy
          have hsn : ((l.take j).drop i).take (k + 1) = ((l.take j).drop i).take k ++ [y'] := by rw [List.take_add_one, hpk]; rfl
          have hgs := glues_snoc (((l.take j).drop i).take k) y'
          rw [← hsn] at hgs
          have hgl := glues_length (((l.take j).drop i).take k)
          rw [List.length_take] at hgl
          obtain ⟨x0, x1, x2, x3, x4, x5, x6⟩ := y'
          have hc : ∀ c v, (Item.cells ⟨x0, x1, x2, x3, x4, x5, x6⟩)[c]? = some v → wr.cell? ⟨b, off + i * 7 + k * 7 + c, none⟩ = some v := fun c v hv => by
            have e := (xk.cell (p := ⟨b, off + (i + k) * 7 + c, none⟩) hb).trans (hrow (i + k) _ hy c v hv)
            rw [Nat.add_mul] at e
            rw [show off + i * 7 + k * 7 + c = off + (i * 7 + k * 7) + c by omega]; exact e
          have c0 := hc 0 _ rfl; have c1 := hc 1 _ rfl; have c2 := hc 2 _ rfl; have c3 := hc 3 _ rfl; have c4 := hc 4 _ rfl; have c5 := hc 5 _ rfl; have c6 := hc 6 _ rfl
          rw [Nat.add_zero] at c0
          have cT := itemTot_any ⟨x0, x1, x2, x3, x4, x5, x6⟩
          obtain ⟨⟨t0, t1, t2, t3, t4, t5⟩, ht⟩ : ∃ t, totI ⟨x0, x1, x2, x3, x4, x5, x6⟩ = t := ⟨_, rfl⟩
          rw [ht] at cT hgs
          simp only [Item.v, Tot.v] at cT hgs
          have j1 : (k : Int) < ((j - i : Nat) : Int) := by omega
          have HGS := Lib.hid hgs
          have HGL : Hid ((glues (((l.take j).drop i).take k)).length + 1 ≤ 5000) := Lib.hid (by omega)
          clear hc hsn hpk hy hgs hgl
          by_cases h2 : x0 = 2
          · subst h2
            have hgs := HGS.out
            rw [if_pos rfl] at hgs
            have HG2 := Lib.hid hgs
            clear hgs HGS
            go_wp2_with fail
            refine (cT _).mono ?_
            rintro e w3 ⟨rfl, kk⟩
            have yr := (xr.alloc _).kp kk
            have yk : Kp w w3 := (((by (repeat (first | with_reducible assumption | with_reducible exact Kp.refl _ | with_reducible refine Kp.drew ?_ | with_reducible refine Kp.drewN ?_ _ | with_reducible refine Kp.alloc ?_ _ | ((with_reducible refine Kp.setCell ?_ ?_ _); rotate_left; (focus (first | omega | (simp; done) | (simp; omega)))) | with_reducible refine Kp.trans ?_ (by assumption)))) : Kp wr _).trans kk |> xk.trans)
            have zr := yr.alloc (.cells #[.int .i64 t0, .int .i64 t1, .int .i64 t2, .int .i64 t3, .int .i64 t4, .int .i64 t5] 31)
            have hbk := Blk.new w3 (Tot.cells6 ⟨t0, t1, t2, t3, t4, t5⟩) 31
            have zk := yk.alloc (.cells #[.int .i64 t0, .int .i64 t1, .int .i64 t2, .int .i64 t3, .int .i64 t4, .int .i64 t5] 31)
            clear c0 c1 c2 c3 c4 c5 c6 cT kk xr yr
            go_wp2_with (first
              | (refine rowAppend ?gd (.tmp 36) (.tmp 39) 35 ?ho Try.underlying35 infoTotal rfl (by decide) zr ?hs (y := ⟨t0, t1, t2, t3, t4, t5⟩) rfl ?h1 hbk ?hx ?hl ?hb ?hz ?_; (case gd => rfl); (case ho => rfl); (case hs => rfl); (case h1 => simp [Tot.cells6, Value.oneCell']); (case hx => rfl); (case hl => have := HGL.out; unfold maxLen; omega); (case hb => have := HGL.out; omega); (case hz => exact zk.size))
              | fail)
            intro v' w4 hr4 kp4 oth4 sz4 hne
            have k4 := kp4 (Nat.le_refl _) zk
            rw [← HG2.out] at hr4
            go_wp2
            go_roundw
            case rel => exact ⟨k + 1, by omega, by go_num, hr4, k4⟩
            case measure => simp [intOf]; omega
          · have hgs := HGS.out
            rw [if_neg h2] at hgs
            have HG2 := Lib.hid hgs
            have h21 : (x0 == 2) = false := beq_eq_false_iff_ne.2 h2
            clear hgs HGS cT
            go_wp2
            go_roundw
            case rel => exact ⟨k + 1, by omega, by go_num, by rw [HG2.out]; exact xr.kp (by (repeat (first | with_reducible assumption | with_reducible exact Kp.refl _ | with_reducible refine Kp.drew ?_ | with_reducible refine Kp.drewN ?_ _ | with_reducible refine Kp.alloc ?_ _ | ((with_reducible refine Kp.setCell ?_ ?_ _); rotate_left; (focus (first | omega | (simp; done) | (simp; omega)))) | with_reducible refine Kp.trans ?_ (by assumption)))), (by (repeat (first | with_reducible assumption | with_reducible exact Kp.refl _ | with_reducible refine Kp.drew ?_ | with_reducible refine Kp.drewN ?_ _ | with_reducible refine Kp.alloc ?_ _ | ((with_reducible refine Kp.setCell ?_ ?_ _); rotate_left; (focus (first | omega | (simp; done) | (simp; omega)))) | with_reducible refine Kp.trans ?_ (by assumption))))⟩
            case measure => simp [intOf]; omega
        · obtain rfl : k = j - i := by omega
          have hta : ((l.take j).drop i).take (j - i) = (l.take j).drop i := by rw [List.take_of_length_le]; rw [List.length_drop, List.length_take]; omega
          rw [hta] at xr
          have j1 : decide (((j - i : Nat) : Int) < ((j - i : Nat) : Int)) = false := decide_eq_false (by omega)
          clear hta hcap hm
          go_wp2
          go_ret
          exact ⟨_, rfl, xr, xk⟩
  · rw [piece_none hlt]
    rw [decide_eq_false hlt] at hw
    obtain ⟨a, ha⟩ : ∃ a, max x 0 = a := ⟨_, rfl⟩
    obtain ⟨b, hb⟩ : ∃ b, min y (l.length : Nat) = b := ⟨_, rfl⟩
    rw [ha, hb] at hw
    clear h ha hb hlt h4
    go_enter Try.func18, Try.ntmps18
    go_wp2_with (go_at_call 49; go_must (refine hw.mono ?_); rintro e w' ⟨rfl, rfl⟩)
    go_ret
    exact ⟨_, rfl, Row.nil _ _ _ _ _, (by (repeat (first | with_reducible assumption | with_reducible exact Kp.refl _ | with_reducible refine Kp.drew ?_ | with_reducible refine Kp.drewN ?_ _ | with_reducible refine Kp.alloc ?_ _ | ((with_reducible refine Kp.setCell ?_ ?_ _); rotate_left; (focus (first | omega | (simp; done) | (simp; omega)))) | with_reducible refine Kp.trans ?_ (by assumption))))⟩
end Go.Proofs.Yteipfamaclildaa
