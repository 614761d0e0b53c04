/- Pages that are more than are gone through: the walk. -/
import Derived.Test.YtfiejiokconobaaDoorPage

namespace Go.Proofs.YtfiejiokconobaaDoor

open Go.ChangeShapes Go.WideShapes Go.ChangeAt Go.RowKit

def bigLane (x : Lane) : Bool := decide (100 < x.s.l.length)
def bigPage (p : Page) : Bool := decide (20 < p.s.l.length) || p.s.l.any bigLane
def largeL (l : List Page) : Bool := (l.take 40).any bigPage || decide (40 < l.length)
theorem any_snoc {α : Type} {f : α → Bool} {l : List α} {k : Nat} {x : α} (h : l[k]? = some x) : (l.take (k + 1)).any f = ((l.take k).any f || f x) := by
  rw [List.take_add_one, h, List.any_append]; simp
theorem any_take {α : Type} {f : α → Bool} {l : List α} {k : Nat} {x : α} (h : l[k]? = some x) (hx : f x = true) : l.any f = true :=
  List.any_eq_true.2 ⟨x, List.mem_of_getElem? h, hx⟩
theorem large_yes {l : List Page} {k : Nat} {p : Page} (hk : k < 40) (h : l[k]? = some p) (hp : bigPage p = true) : largeL l = true := by
  unfold largeL
  rw [any_take (k := k) (by rw [List.getElem?_take, if_pos hk]; exact h) hp]; rfl

set_option maxRecDepth 100000 in
set_option maxHeartbeats 2000000 in
theorem large_any (a : Option Addr) (len cap : Nat) (l : List Page) (w : World) (hl : SlOk w 4 Page.cells a len cap l) (hg : ∀ y, y ∈ l → y.good w) :
    Calls Tryd.prog 6 #[.slice a len cap] w fun e w' => e = .returned (.bool (largeL l)) ∧ w' = w := by
  have hlen := hl.1
  have hcap := hl.2.1
  have hmx := hl.2.2.1
  unfold maxLen at hmx
  subst hlen
  have HG := Lib.hid hg
  have HL := Lib.hid hl
  clear hg hl
  go_enter Tryd.func6, Tryd.ntmps6
  go_wp2
  go_loopw [3] (fun v3 wr => ∃ k : Nat, k ≤ l.length ∧ k ≤ 40 ∧ v3 = .int .i64 k ∧ (l.take k).any bigPage = false ∧ wr = w) (fun v3 _ => l.length - (intOf v3).toNat)
  case atStart => exact ⟨0, Nat.zero_le _, by omega, rfl, by simp, rfl⟩
  case round =>
    obtain ⟨k, hk, hk4, rfl, han, rfl⟩ := hrel
    by_cases hlt : k < l.length ∧ k < 40
    · obtain ⟨hlt, hk5⟩ := hlt
      have j1 : decide ((k : Int) < (l.length : Int)) = true := decide_eq_true (by omega)
      have j2 : decide ((k : Int) < 40) = true := decide_eq_true (by omega)
      obtain ⟨x, hx⟩ : ∃ x, l[k]? = some x := ⟨l[k], List.getElem?_eq_getElem hlt⟩
      rcases HL.out.2.2.2 with e | ⟨b, off, rfl, hb, hrow⟩
      · rw [e] at hx; simp at hx
      · have hgx := HG.out x (List.mem_of_getElem? hx)
        have hsn := any_snoc (f := bigPage) hx
        obtain ⟨⟨la, ll, lc, ls⟩, xt, xf, xl⟩ := x
        have c0 := hrow k _ hx 0 _ rfl
        simp only [Nat.add_zero] at c0
        obtain ⟨_, _, _, hs, hgl⟩ := hgx
        simp only at hs hgl c0
        have hsl := hs.1
        have hsc := hs.2.1
        have hsm := hs.2.2.1
        unfold maxLen at hsm
        have HX := Lib.hid hx
        have HSN := Lib.hid hsn
        have HS := Lib.hid hs
        have HGL := Lib.hid hgl
        have HAN := Lib.hid han
        clear hrow hx hsn hs hgl han
        subst hsl
        by_cases h20 : 20 < ls.length
        · have j3 : decide ((20 : Int) < (ls.length : Int)) = true := decide_eq_true (by omega)
          have j4 : decide (20 < ls.length) = true := decide_eq_true (by omega)
          have hy := large_yes hk5 HX.out (by unfold bigPage; simp only [j4]; rfl)
          have HY := Lib.hid hy
          clear hy
          go_wp2
          (try go_ret)
          exact ⟨ret_bool HY.out.symm, rfl⟩
        · have j3 : decide ((20 : Int) < (ls.length : Int)) = false := decide_eq_false (by omega)
          have j4 : decide (20 < ls.length) = false := decide_eq_false (by omega)
          go_wp2
          go_loopw [4] (fun v4 wr' => ∃ m : Nat, m ≤ ls.length ∧ v4 = .int .i64 m ∧ (ls.take m).any bigLane = false ∧ wr' = wr) (fun v4 _ => ls.length - (intOf v4).toNat)
          case atStart => exact ⟨0, Nat.zero_le _, rfl, by simp, rfl⟩
          case round =>
            obtain ⟨m, hm, rfl, ham, rfl⟩ := hrel
            by_cases hlt2 : m < ls.length
            · obtain ⟨y, hy⟩ : ∃ x, ls[m]? = some x := ⟨ls[m], List.getElem?_eq_getElem hlt2⟩
              rcases HS.out.2.2.2 with e | ⟨lb, lo, rfl, hlb, hrow⟩
              · rw [e] at hy; simp at hy
              · have hgy := HGL.out y (List.mem_of_getElem? hy)
                have hsn := any_snoc (f := bigLane) hy
                obtain ⟨yx, ⟨pa, pl, pc, ps⟩⟩ := y
                have c1 := hrow m _ hy 1 _ rfl
                simp only at c1
                obtain ⟨_, hps, _⟩ := hgy
                simp only at hps
                have hpl := hps.1
                subst hpl
                have HY := Lib.hid hy
                have HSM := Lib.hid hsn
                have HAM := Lib.hid ham
                clear hrow hy hsn ham hps
                by_cases h100 : 100 < ps.length
                · have j5 : decide ((100 : Int) < (ps.length : Int)) = true := decide_eq_true (by omega)
                  have j6 : decide (100 < ps.length) = true := decide_eq_true (by omega)
                  have hz := large_yes hk5 HX.out (by unfold bigPage; rw [any_take HY.out (by unfold bigLane; exact j6)]; simp)
                  have HZ := Lib.hid hz
                  clear hz
                  go_wp2
                  (try go_ret)
                  exact ⟨ret_bool HZ.out.symm, rfl⟩
                · have j5 : decide ((100 : Int) < (ps.length : Int)) = false := decide_eq_false (by omega)
                  have j6 : decide (100 < ps.length) = false := decide_eq_false (by omega)
                  have hz : (ls.take (m + 1)).any bigLane = false := by
                    rw [HSM.out, HAM.out, Bool.false_or]; exact j6
                  have HZ := Lib.hid hz
                  clear hz
                  go_wp2
                  go_roundw
                  case rel => exact ⟨m + 1, by omega, by go_num, HZ.out, by first | trivial | rfl⟩
                  case measure => simp [intOf]; omega
            · obtain rfl : m = ls.length := by omega
              have j5 : decide ((ls.length : Int) < (ls.length : Int)) = false := decide_eq_false (by omega)
              rw [List.take_length] at ham
              have hz : (l.take (k + 1)).any bigPage = false := by
                rw [HSN.out, HAN.out, Bool.false_or]; unfold bigPage; simp only [ham, Bool.or_false]; exact j4
              have HZ := Lib.hid hz
              clear hz ham
              go_wp2
              go_roundw
              case rel => exact ⟨k + 1, by omega, by omega, by go_num, HZ.out, by first | trivial | rfl⟩
              case measure => simp [intOf]; omega
    · have hz : largeL l = decide (40 < l.length) := by
        unfold largeL
        have e : l.take 40 = l.take k := by
          rw [List.take_eq_take_iff]; omega
        rw [e, han]; rfl
      by_cases h40 : 40 < l.length
      · obtain rfl : k = 40 := by omega
        have j1 : decide ((40 : Int) < (l.length : Int)) = true := decide_eq_true (by omega)
        have j2 : decide (40 < l.length) = true := decide_eq_true h40
        have j3 : decide (((40 : Nat) : Int) < (l.length : Int)) = true := decide_eq_true (by omega)
        rw [j2] at hz
        have HZ := Lib.hid hz
        clear hz han
        go_wp2
        (try go_ret)
        exact ⟨ret_bool HZ.out.symm, rfl⟩
      · obtain rfl : k = l.length := by omega
        have j1 : decide ((40 : Int) < (l.length : Int)) = false := decide_eq_false (by omega)
        have j2 : decide (40 < l.length) = false := decide_eq_false h40
        have j3 : decide ((l.length : Int) < (l.length : Int)) = false := decide_eq_false (by omega)
        rw [j2] at hz
        have HZ := Lib.hid hz
        clear hz han
        go_wp2
        (try go_ret)
        exact ⟨ret_bool HZ.out.symm, rfl⟩
end Go.Proofs.YtfiejiokconobaaDoor
