/- The document's lines: a word's value, a line's numbers. -/
import Derived.Test.YtaekeogaakogbaaGreatDoorG8

namespace Go.Proofs.YtaekeogaakogbaaGreatDoor

open Go.ChangeShapes Go.WideShapes Go.ChangeAt Go.RowKit Go.Shelf

def lowL : List UInt8 → Bool
  | [] => false
  | c :: _ => c == 45
def valueStep (low : Bool) (n : Int) (c : UInt8) : Int :=
  if 48 ≤ c.toNat ∧ c.toNat ≤ 57 then IntKind.i64.wrap (IntKind.i64.wrap (n * 10) + (if low then -((c.toNat : Int) - 48) else (c.toNat : Int) - 48)) else n
def valueL (s : List UInt8) : Int := (s.take 20).foldl (valueStep (lowL s)) 0
theorem step_i64 {low : Bool} {n : Int} (h : I64 n) (c : UInt8) : I64 (valueStep low n c) := by
  unfold valueStep
  split
  · rw [IntKind.wrap_i64]; unfold I64; omega
  · exact h
theorem fold_i64 (low : Bool) : ∀ (l : List UInt8) (n : Int), I64 n → I64 (l.foldl (valueStep low) n)
  | [], _, h => h
  | c :: l, _, h => fold_i64 low l _ (step_i64 h c)
theorem valueL_i64 (s : List UInt8) : I64 (valueL s) := fold_i64 _ _ _ (by unfold I64; omega)
theorem fold_dec (low : Bool) : ∀ (u : Nat), (if low then u ≤ 9223372036854775808 else u ≤ 9223372036854775807) → (Lib.decDigits u).foldl (valueStep low) 0 = if low then -(u : Int) else (u : Int) := by
  intro u
  induction u using Nat.strongRecOn with
  | _ u ih =>
    intro hu
    have step : ∀ (n : Int) (d : Nat), d < 10 → I64 (n * 10) → I64 (n * 10 + (if low then -(d : Int) else (d : Int))) → valueStep low n (UInt8.ofNat (48 + d)) = n * 10 + (if low then -(d : Int) else (d : Int)) := fun n d hd h1 h2 => by
      have e : (UInt8.ofNat (48 + d)).toNat = 48 + d := by rw [UInt8.toNat_ofNat']; omega
      unfold valueStep
      rw [e, if_pos (by omega)]
      unfold I64 at h1 h2
      have w1 : IntKind.i64.wrap (n * 10) = n * 10 := by rw [IntKind.wrap_i64]; omega
      have e2 : ((48 + d : Nat) : Int) - 48 = d := by omega
      rw [w1, e2]
      rw [IntKind.wrap_i64]; omega
    rw [Lib.decDigits]
    split
    · rename_i h
      rw [List.foldl_cons, List.foldl_nil, step 0 u h (by unfold I64; omega) (by unfold I64; cases low <;> simp <;> omega)]
      omega
    · rename_i h
      rw [List.foldl_append, List.foldl_cons, List.foldl_nil, ih (u / 10) (by omega) (by cases low <;> simp at hu ⊢ <;> omega)]
      cases low
      · simp only [Bool.false_eq_true, if_false] at hu step ⊢
        rw [step _ (u % 10) (by omega) (by unfold I64; omega) (by unfold I64; omega)]
        omega
      · simp only [if_true] at hu step ⊢
        rw [step _ (u % 10) (by omega) (by unfold I64; omega) (by unfold I64; omega)]
        omega
theorem dec_19 {u : Nat} (h : u < 10 ^ 19) : (Lib.decDigits u).length ≤ 19 := by
  have nd : ∀ (k u : Nat), u < 10 ^ (k + 1) → Lib.nDigits u ≤ k + 1 := by
    intro k
    induction k with
    | zero => intro u hu; rw [Lib.nDigits_small (by omega)]; exact Nat.le_refl _
    | succ k ih =>
      intro u hu
      by_cases h : u < 10
      · rw [Lib.nDigits_small h]; omega
      · rw [Lib.nDigits_big h]
        have := ih (u / 10) (by rw [Nat.pow_succ] at hu; omega)
        omega
  rw [Lib.decDigits_length]; exact nd 18 u h
theorem itoa_20 {n : Int} (h : I64 n) : (Lib.itoa n).length ≤ 20 := by
  obtain ⟨h0, h1⟩ := h
  unfold Lib.itoa
  split
  · rw [List.length_cons]
    have := dec_19 (u := n.natAbs) (by omega)
    omega
  · have := dec_19 (u := n.toNat) (by omega)
    omega
theorem value_itoa {v : Int} (h : I64 v) : valueL (Lib.itoa v) = v := by
  have hs := itoa_20 h
  unfold valueL
  rw [List.take_of_length_le hs]
  clear hs
  unfold I64 at h
  unfold Lib.itoa
  by_cases hv : v < 0
  · rw [if_pos hv]
    show (45 :: Lib.decDigits v.natAbs).foldl (valueStep true) 0 = v
    have e45 : valueStep true 0 45 = 0 := rfl
    rw [List.foldl_cons, e45, fold_dec true v.natAbs (by simp; omega)]
    simp only [if_true]; omega
  · rw [if_neg hv]
    have hl : lowL (Lib.decDigits v.toNat) = false := by
      obtain ⟨c, r, e⟩ := List.exists_cons_of_ne_nil (dec_ne v.toNat)
      have hc := dec_byte (u := v.toNat) (c := c) (by rw [e]; exact List.mem_cons_self)
      rw [e]
      show (c == 45) = false
      rw [beq_eq_false_iff_ne]
      intro e2
      rw [e2] at hc
      have : (45 : UInt8).toNat = 45 := rfl
      omega
    rw [hl, fold_dec false v.toNat (by simp; omega)]
    simp only [Bool.false_eq_true, if_false]; omega
end Go.Proofs.YtaekeogaakogbaaGreatDoor
