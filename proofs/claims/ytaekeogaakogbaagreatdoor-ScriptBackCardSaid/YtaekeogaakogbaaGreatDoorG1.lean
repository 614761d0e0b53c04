/- Lines of a galley, plain: words, numbers that are written as they are read, things. -/
import Derived.Test.YtaekeogaakogbaaGreatDoorLine

import Derived.Lib.SplitLaws

import Derived.Lib.ParseIntBCases

namespace Go.Proofs.YtaekeogaakogbaaGreatDoor

open Go.RowKit

/-- The words between blanks. -/
def splitW : List UInt8 → List (List UInt8)
  | [] => [[]]
  | c :: r => if c = 32 then [] :: splitW r else match splitW r with
    | w :: ws => (c :: w) :: ws
    | [] => [[c]]
theorem splitW_ne : ∀ s, splitW s ≠ []
  | [] => by simp [splitW]
  | c :: r => by
    unfold splitW
    split
    · simp
    · split <;> simp
theorem index32 (c : UInt8) (r : List UInt8) : Lib.index (c :: r) [32] = if c = 32 then 0 else if Lib.index r [32] = -1 then -1 else Lib.index r [32] + 1 := by
  conv => lhs; unfold Lib.index
  by_cases h : c = 32
  · subst h; simp [List.isPrefixOf]
  · have : ([32] : List UInt8).isPrefixOf (c :: r) = false := by
      simp only [List.isPrefixOf, Bool.and_true, beq_eq_false_iff_ne]
      exact fun e => h e.symm
    rw [this, if_neg h]
    by_cases h2 : Lib.index r [32] = -1 <;> simp [h2]
theorem split_W : ∀ s : List UInt8, Lib.split s [32] = splitW s
  | [] => by
    unfold Lib.split
    have : Lib.count [] [32] = 0 := by decide
    rw [this]; rfl
  | c :: r => by
    have ih := split_W r
    have h32 := index32 c r
    by_cases h : c = 32
    · rw [if_pos h] at h32
      have hc := Lib.count_hit (s := c :: r) (sub := [32]) (i := 0) (by simp) h32
      unfold Lib.split splitW
      rw [if_pos h, hc, ← ih, Nat.add_comm]
      unfold Lib.splitK Lib.split
      rw [h32]
      simp
    · rw [if_neg h] at h32
      by_cases h2 : Lib.index r [32] = -1
      · rw [if_pos h2] at h32
        unfold Lib.split
        rw [Lib.count_miss h32]
        unfold Lib.split at ih
        rw [Lib.count_miss h2] at ih
        unfold splitW
        rw [if_neg h, ← ih]
        rfl
      · rw [if_neg h2] at h32
        have hge := Lib.index_ge r [32]
        obtain ⟨i, hi⟩ : ∃ i : Nat, Lib.index r [32] = i := ⟨(Lib.index r [32]).toNat, by omega⟩
        rw [hi] at h32
        have hc1 := Lib.count_hit (s := c :: r) (sub := [32]) (i := i + 1) (by simp) (by rw [h32]; omega)
        have hc2 := Lib.count_hit (s := r) (sub := [32]) (i := i) (by simp) hi
        unfold Lib.split at ih ⊢
        rw [hc2, Nat.add_comm] at ih
        rw [hc1, Nat.add_comm]
        unfold splitW
        rw [if_neg h, ← ih]
        unfold Lib.splitK
        have e1 : ((i : Int) + 1 == -1) = false := by rw [beq_eq_false_iff_ne]; omega
        have e2 : ((i : Int) == -1) = false := by rw [beq_eq_false_iff_ne]; omega
        have e3 : ((i : Int) + 1).toNat = i + 1 := by omega
        rw [hi, h32, e1, e2, e3]
        simp
/-- What strings.Split gives. -/
theorem split_run (s : List UInt8) : (Lib.splitB ⟨#[32]⟩ 0 (Lib.countB ⟨s.toArray⟩ ⟨#[32]⟩) ⟨s.toArray⟩).map Value.string = (splitW s).map sv ∧ Lib.countB ⟨s.toArray⟩ ⟨#[32]⟩ + 1 = (splitW s).length := by
  have h := Lib.splitB_data ⟨#[32]⟩ 0 (Lib.countB ⟨s.toArray⟩ ⟨#[32]⟩) ⟨s.toArray⟩
  have hs : Lib.splitK [32] 0 (Lib.countB ⟨s.toArray⟩ ⟨#[32]⟩) s = splitW s := split_W s
  have h' : (Lib.splitB ⟨#[32]⟩ 0 (Lib.countB ⟨s.toArray⟩ ⟨#[32]⟩) ⟨s.toArray⟩).map (·.data.toList) = splitW s := h.trans hs
  have hl := Lib.splitB_all ⟨#[32]⟩ (by decide) 0 _ ⟨s.toArray⟩ rfl
  refine ⟨?_, ?_⟩
  · rw [← h', List.map_map]
    rfl
  · rw [← h', List.length_map, hl]
/-- The number that is written so. -/
def canon (x : List UInt8) : Option Int := match Lib.parseIntB 64 x with
  | .ok v => if Lib.itoa v = x then some v else none
  | _ => none
theorem parseM_dec (M : Nat) (hM : M ≤ 18446744073709551615) : ∀ (u : Nat), u ≤ M → ∀ rest, Lib.parseUintM M 0 (Lib.decDigits u ++ rest) = Lib.parseUintM M u rest := by
  intro u
  induction u using Nat.strongRecOn with
  | _ u ih =>
    intro hu rest
    have step : ∀ (a d : Nat), d < 10 → a * 10 + d ≤ M → Lib.parseUintM M a (UInt8.ofNat (48 + d) :: rest) = Lib.parseUintM M (a * 10 + d) rest := fun a d hd ha => by
      have e : (UInt8.ofNat (48 + d)).toNat = 48 + d := by rw [UInt8.toNat_ofNat']; omega
      conv => lhs; unfold Lib.parseUintM
      rw [e, if_pos (by omega), if_neg (by omega), Nat.add_sub_cancel_left, if_neg (by omega)]
    rw [Lib.decDigits]
    split
    · rename_i h
      have := step 0 u h (by omega)
      simpa using this
    · rename_i h
      rw [List.append_assoc, ih (u / 10) (by omega) (by omega)]
      have := step (u / 10) (u % 10) (by omega) (by omega)
      rw [List.singleton_append, this]
      congr 1; omega
theorem dec_byte {u : Nat} {c : UInt8} : c ∈ Lib.decDigits u → 48 ≤ c.toNat ∧ c.toNat ≤ 57 := by
  induction u using Nat.strongRecOn with
  | _ u ih =>
    intro hc
    have one : ∀ d : Nat, d < 10 → c = UInt8.ofNat (48 + d) → 48 ≤ c.toNat ∧ c.toNat ≤ 57 := fun d hd e => by
      have e' : (UInt8.ofNat (48 + d)).toNat = 48 + d := by rw [UInt8.toNat_ofNat']; omega
      rw [e, e']; omega
    rw [Lib.decDigits] at hc
    split at hc
    · rename_i h
      simp only [List.mem_singleton] at hc
      exact one u h hc
    · rename_i h
      rcases List.mem_append.1 hc with hc | hc
      · exact ih (u / 10) (by omega) hc
      · simp only [List.mem_singleton] at hc
        exact one (u % 10) (by omega) hc
theorem dec_ne (u : Nat) : Lib.decDigits u ≠ [] := by
  rw [Lib.decDigits]; split <;> simp
theorem parse_itoa {v : Int} (h : I64 v) : Lib.parseIntB 64 (Lib.itoa v) = .ok v := by
  unfold I64 at h
  unfold Lib.itoa
  by_cases hv : v < 0
  · rw [if_pos hv]
    unfold Lib.parseIntB
    have e45 : (45 : UInt8).toNat = 45 := rfl
    have hp : Lib.parseUintB 64 (Lib.decDigits v.natAbs) = .ok v.natAbs := by
      unfold Lib.parseUintB
      rw [if_neg (dec_ne _)]
      have := parseM_dec (2 ^ 64 - 1) (by decide) v.natAbs (by omega) []
      rw [List.append_nil] at this
      rw [this]; rfl
    simp only [e45, or_true, if_true, hp]
    have hb1 : ¬ 2 ^ (64 - 1) < v.natAbs := by omega
    simp only [hb1, not_true_eq_false, false_and, and_false, if_false]
    congr 1; omega
  · rw [if_neg hv]
    have hne := dec_ne v.toNat
    obtain ⟨c, r, hcr⟩ := List.exists_cons_of_ne_nil hne
    have hc := dec_byte (u := v.toNat) (c := c) (by rw [hcr]; exact List.mem_cons_self)
    have hp : Lib.parseUintB 64 (Lib.decDigits v.toNat) = .ok v.toNat := by
      unfold Lib.parseUintB
      rw [if_neg hne]
      have := parseM_dec (2 ^ 64 - 1) (by decide) v.toNat (by omega) []
      rw [List.append_nil] at this
      rw [this]; rfl
    rw [hcr] at hp ⊢
    unfold Lib.parseIntB
    simp only
    rw [if_neg (show ¬ (c.toNat = 43 ∨ c.toNat = 45) by omega), hp]
    have hn : ¬ c.toNat = 45 := by omega
    have hb : ¬ 2 ^ (64 - 1) ≤ v.toNat := by omega
    simp only [hn, hb, not_false_eq_true, and_false, false_and, if_false]
    congr 1; omega
theorem canon_itoa {v : Int} (h : I64 v) : canon (Lib.itoa v) = some v := by
  unfold canon
  rw [parse_itoa h]
  simp
theorem canon_ok {x : List UInt8} {v : Int} (h : canon x = some v) : Lib.itoa v = x := by
  unfold canon at h
  split at h
  · split at h
    · cases h; assumption
    · cases h
  · cases h
end Go.Proofs.YtaekeogaakogbaaGreatDoor
