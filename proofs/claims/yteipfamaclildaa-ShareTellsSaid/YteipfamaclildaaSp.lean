/- Checked sums and differences: packages sp and tympanref01. -/
import Derived.Test.YteipfamaclildaaKit

namespace Go.Proofs.Yteipfamaclildaa

open Go.RowKit

def fits (x : Int) : Bool := decide (-9223372036854775808 ≤ x ∧ x ≤ 9223372036854775807)
def clip (x : Int) : Int := if fits x = true then x else 0
theorem fits_yes {x : Int} (h : -9223372036854775808 ≤ x) (h' : x ≤ 9223372036854775807) : fits x = true := by unfold fits; simp; omega
theorem fits_no {x : Int} (h : x < -9223372036854775808 ∨ 9223372036854775807 < x) : fits x = false := by unfold fits; simp; omega
theorem fits_iff {x : Int} : fits x = true ↔ -9223372036854775808 ≤ x ∧ x ≤ 9223372036854775807 := by unfold fits; simp
theorem clip_yes {x : Int} (h : fits x = true) : clip x = x := by unfold clip; rw [if_pos h]
theorem clip_no {x : Int} (h : fits x = false) : clip x = 0 := by unfold clip; rw [h]; rfl
theorem clip_bounds (x : Int) : -9223372036854775808 ≤ clip x ∧ clip x ≤ 9223372036854775807 := by
  cases h : fits x with
  | true => rw [clip_yes h]; exact fits_iff.1 h
  | false => rw [clip_no h]; omega

set_option maxHeartbeats 400000 in
theorem spAdd_any (a b : Int) (w : World) (h0 : -9223372036854775808 ≤ a) (h1 : a ≤ 9223372036854775807) (h2 : -9223372036854775808 ≤ b) (h3 : b ≤ 9223372036854775807) :
    Calls Try.prog 73 #[.int .i64 a, .int .i64 b] w fun e w' => e = .returned (.tuple #[.int .i64 (clip (a + b)), .bool (fits (a + b))]) ∧ w = w' := by
  by_cases g : -9223372036854775808 ≤ a + b ∧ a + b ≤ 9223372036854775807
  · rw [clip_yes (fits_yes g.1 g.2), fits_yes g.1 g.2]
    obtain ⟨g1, g2⟩ := g
    rcases Int.lt_trichotomy b 0 with k | k | k
    · go_enter Try.func73, Try.ntmps73
      go_wp2
      go_ret2
      exact ⟨rfl, rfl⟩
    · subst k
      go_enter Try.func73, Try.ntmps73
      go_wp2
      go_ret2
      exact ⟨by simp, rfl⟩
    · go_enter Try.func73, Try.ntmps73
      go_wp2
      go_ret2
      exact ⟨rfl, rfl⟩
  · rw [clip_no (fits_no (by omega)), fits_no (by omega)]
    by_cases k : 0 < b
    · have hx : decide (a < wrap64 (a + b)) = false := by unfold wrap64; simp; omega
      have hn : (b != 0) = true := by rw [bne_iff_ne]; omega
      clear g
      go_enter Try.func73, Try.ntmps73
      go_wp2
      go_ret2
      exact ⟨rfl, rfl⟩
    · have hx : decide (a < wrap64 (a + b)) = true := by unfold wrap64; simp; omega
      have hn : (b != 0) = true := by rw [bne_iff_ne]; omega
      have hb : decide (0 < b) = false := by simp; omega
      clear g k
      go_enter Try.func73, Try.ntmps73
      go_wp2
      go_ret2
      exact ⟨rfl, rfl⟩

set_option maxHeartbeats 400000 in
theorem spSub_any (a b : Int) (w : World) (h0 : -9223372036854775808 ≤ a) (h1 : a ≤ 9223372036854775807) (h2 : -9223372036854775808 ≤ b) (h3 : b ≤ 9223372036854775807) :
    Calls Try.prog 76 #[.int .i64 a, .int .i64 b] w fun e w' => e = .returned (.tuple #[.int .i64 (clip (a - b)), .bool (fits (a - b))]) ∧ w = w' := by
  by_cases g : -9223372036854775808 ≤ a - b ∧ a - b ≤ 9223372036854775807
  · rw [clip_yes (fits_yes g.1 g.2), fits_yes g.1 g.2]
    obtain ⟨g1, g2⟩ := g
    rcases Int.lt_trichotomy b 0 with k | k | k
    · go_enter Try.func76, Try.ntmps76
      go_wp2
      go_ret2
      exact ⟨rfl, rfl⟩
    · subst k
      go_enter Try.func76, Try.ntmps76
      go_wp2
      go_ret2
      exact ⟨by simp, rfl⟩
    · go_enter Try.func76, Try.ntmps76
      go_wp2
      go_ret2
      exact ⟨rfl, rfl⟩
  · rw [clip_no (fits_no (by omega)), fits_no (by omega)]
    by_cases k : 0 < b
    · have hx : decide (wrap64 (a - b) < a) = false := by unfold wrap64; simp; omega
      have hn : (b != 0) = true := by rw [bne_iff_ne]; omega
      clear g
      go_enter Try.func76, Try.ntmps76
      go_wp2
      go_ret2
      exact ⟨rfl, rfl⟩
    · have hx : decide (wrap64 (a - b) < a) = true := by unfold wrap64; simp; omega
      have hn : (b != 0) = true := by rw [bne_iff_ne]; omega
      have hb : decide (0 < b) = false := by simp; omega
      clear g k
      go_enter Try.func76, Try.ntmps76
      go_wp2
      go_ret2
      exact ⟨rfl, rfl⟩

set_option maxHeartbeats 400000 in
theorem refAdd_any (a b : Int) (w : World) (h0 : -9223372036854775808 ≤ a) (h1 : a ≤ 9223372036854775807) (h2 : -9223372036854775808 ≤ b) (h3 : b ≤ 9223372036854775807) :
    Calls Try.prog 52 #[.int .i64 a, .int .i64 b] w fun e w' => e = .returned (.agg #[.int .i64 (clip (a + b)), .bool (fits (a + b))]) ∧ w' = w.alloc (.cells #[.int .i64 (clip (a + b)), .bool (fits (a + b))] 53) := by
  by_cases g : -9223372036854775808 ≤ a + b ∧ a + b ≤ 9223372036854775807
  · rw [clip_yes (fits_yes g.1 g.2), fits_yes g.1 g.2]
    obtain ⟨g1, g2⟩ := g
    rcases Int.lt_trichotomy b 0 with k | k | k
    · go_enter Try.func52, Try.ntmps52
      go_wp2
      exact bodyPost_ret (v := .agg #[.int .i64 (a + b), .bool true]) (by simp [results, Try.results52, go_sem]) rfl ⟨rfl, rfl⟩
    · subst k
      go_enter Try.func52, Try.ntmps52
      go_wp2
      exact bodyPost_ret (v := .agg #[.int .i64 (a + 0), .bool true]) (by simp [results, Try.results52, go_sem]) rfl ⟨by simp, by simp⟩
    · go_enter Try.func52, Try.ntmps52
      go_wp2
      exact bodyPost_ret (v := .agg #[.int .i64 (a + b), .bool true]) (by simp [results, Try.results52, go_sem]) rfl ⟨rfl, rfl⟩
  · rw [clip_no (fits_no (by omega)), fits_no (by omega)]
    rcases Int.lt_trichotomy b 0 with k | k | k
    · go_enter Try.func52, Try.ntmps52
      go_wp2
      exact bodyPost_ret (v := .agg #[.int .i64 0, .bool false]) (by simp [results, Try.results52, go_sem]) rfl ⟨rfl, rfl⟩
    · omega
    · go_enter Try.func52, Try.ntmps52
      go_wp2
      exact bodyPost_ret (v := .agg #[.int .i64 0, .bool false]) (by simp [results, Try.results52, go_sem]) rfl ⟨rfl, rfl⟩

end Go.Proofs.Yteipfamaclildaa
