/- The document's lines: a word's value, a line's numbers. -/
import Derived.Test.YtkglkbkikgncoaaDoorG8

namespace Go.Proofs.YtkglkbkikgncoaaDoor

open Go.ChangeShapes Go.WideShapes Go.ChangeAt Go.RowKit Go.Shelf

def lowL : List UInt8 → Bool
  | [] => false
  | c :: _ => c == 45
def valueStep (low : Bool) (n : Int) (c : UInt8) : Int :=
  if 48 ≤ c.toNat ∧ c.toNat ≤ 57 then IntKind.i64.wrap (IntKind.i64.wrap (n * 10) + (if low then -((c.toNat : Int) - 48) else (c.toNat : Int) - 48)) else n
def valueL (s : List UInt8) : Int := (s.take 20).foldl (valueStep (lowL s)) 0
theorem step_i64 {low : Bool} {n : Int} (h : I64 n) (c : UInt8) : I64 (valueStep low n c) := by
  unfold valueStep
  split
  · rw [IntKind.wrap_i64]; unfold I64; omega
  · exact h
theorem fold_i64 (low : Bool) : ∀ (l : List UInt8) (n : Int), I64 n → I64 (l.foldl (valueStep low) n)
  | [], _, h => h
  | c :: l, _, h => fold_i64 low l _ (step_i64 h c)
theorem valueL_i64 (s : List UInt8) : I64 (valueL s) := fold_i64 _ _ _ (by unfold I64; omega)
theorem fold_dec (low : Bool) : ∀ (u : Nat), (if low then u ≤ 9223372036854775808 else u ≤ 9223372036854775807) → (Lib.decDigits u).foldl (valueStep low) 0 = if low then -(u : Int) else (u : Int) := by
  intro u
  induction u using Nat.strongRecOn with
  | _ u ih =>
    intro hu
    have step : ∀ (n : Int) (d : Nat), d < 10 → I64 (n * 10) → I64 (n * 10 + (if low then -(d : Int) else (d : Int))) → valueStep low n (UInt8.ofNat (48 + d)) = n * 10 + (if low then -(d : Int) else (d : Int)) := fun n d hd h1 h2 => by
      have e : (UInt8.ofNat (48 + d)).toNat = 48 + d := by rw [UInt8.toNat_ofNat']; omega
      unfold valueStep
      rw [e, if_pos (by omega)]
      unfold I64 at h1 h2
      have w1 : IntKind.i64.wrap (n * 10) = n * 10 := by rw [IntKind.wrap_i64]; omega
      have e2 : ((48 + d : Nat) : Int) - 48 = d := by omega
      rw [w1, e2]
      rw [IntKind.wrap_i64]; omega
    rw [Lib.decDigits]
    split
    · rename_i h
      rw [List.foldl_cons, List.foldl_nil, step 0 u h (by unfold I64; omega) (by unfold I64; cases low <;> simp <;> omega)]
      omega
    · rename_i h
      rw [List.foldl_append, List.foldl_cons, List.foldl_nil, ih (u / 10) (by omega) (by cases low <;> simp at hu ⊢ <;> omega)]
      cases low
      · simp only [Bool.false_eq_true, if_false] at hu step ⊢
        rw [step _ (u % 10) (by omega) (by unfold I64; omega) (by unfold I64; omega)]
        omega
      · simp only [if_true] at hu step ⊢
        rw [step _ (u % 10) (by omega) (by unfold I64; omega) (by unfold I64; omega)]
        omega
theorem dec_19 {u : Nat} (h : u < 10 ^ 19) : (Lib.decDigits u).length ≤ 19 := by
  have nd : ∀ (k u : Nat), u < 10 ^ (k + 1) → Lib.nDigits u ≤ k + 1 := by
    intro k
    induction k with
    | zero => intro u hu; rw [Lib.nDigits_small (by omega)]; exact Nat.le_refl _
    | succ k ih =>
      intro u hu
      by_cases h : u < 10
      · rw [Lib.nDigits_small h]; omega
      · rw [Lib.nDigits_big h]
        have := ih (u / 10) (by rw [Nat.pow_succ] at hu; omega)
        omega
  rw [Lib.decDigits_length]; exact nd 18 u h
theorem itoa_20 {n : Int} (h : I64 n) : (Lib.itoa n).length ≤ 20 := by
  obtain ⟨h0, h1⟩ := h
  unfold Lib.itoa
  split
  · rw [List.length_cons]
    have := dec_19 (u := n.natAbs) (by omega)
    omega
  · have := dec_19 (u := n.toNat) (by omega)
    omega
theorem value_itoa {v : Int} (h : I64 v) : valueL (Lib.itoa v) = v := by
  have hs := itoa_20 h
  unfold valueL
  rw [List.take_of_length_le hs]
  clear hs
  unfold I64 at h
  unfold Lib.itoa
  by_cases hv : v < 0
  · rw [if_pos hv]
    show (45 :: Lib.decDigits v.natAbs).foldl (valueStep true) 0 = v
    have e45 : valueStep true 0 45 = 0 := rfl
    rw [List.foldl_cons, e45, fold_dec true v.natAbs (by simp; omega)]
    simp only [if_true]; omega
  · rw [if_neg hv]
    have hl : lowL (Lib.decDigits v.toNat) = false := by
      obtain ⟨c, r, e⟩ := List.exists_cons_of_ne_nil (dec_ne v.toNat)
      have hc := dec_byte (u := v.toNat) (c := c) (by rw [e]; exact List.mem_cons_self)
      rw [e]
      show (c == 45) = false
      rw [beq_eq_false_iff_ne]
      intro e2
      rw [e2] at hc
      have : (45 : UInt8).toNat = 45 := rfl
      omega
    rw [hl, fold_dec false v.toNat (by simp; omega)]
    simp only [Bool.false_eq_true, if_false]; omega
set_option maxRecDepth 100000 in
set_option maxHeartbeats 8000000 in
theorem value_any (s : List UInt8) (hs : s.length ≤ 10000) (w : World) :
    Calls Tryd.prog 45 #[sv s] w fun e w' => e = .returned (.int .i64 (valueL s)) ∧ Kp w w' := by
  have hsz : (⟨s.toArray⟩ : ByteArray).size = s.length := size_sv s
  obtain ⟨low, hlow⟩ : ∃ low, lowL s = low := ⟨_, rfl⟩
  have hfirst : s = [] ∨ ∃ (c : UInt8) (h0 : 0 < (⟨s.toArray⟩ : ByteArray).size), (⟨s.toArray⟩ : ByteArray)[0]'h0 = c ∧ ((c.toNat : Int) == 45) = low ∧ decide (0 < s.length) = true := by
    rcases hs0 : s with _ | ⟨c, r⟩
    · exact .inl rfl
    · subst hs0
      refine .inr ⟨c, by rw [size_sv]; simp, rfl, ?_, by simp⟩
      rw [← hlow]
      show ((c.toNat : Int) == 45) = (c == 45)
      by_cases h : c = 45
      · subst h; rfl
      · have e : ¬ (c.toNat : Int) = 45 := fun e => h (UInt8.toNat_inj.1 (by have : (45 : UInt8).toNat = 45 := rfl; omega))
        rw [beq_eq_false_iff_ne.2 h, beq_eq_false_iff_ne.2 e]
  have hv : valueL s = (s.take 20).foldl (valueStep low) 0 := by unfold valueL; rw [hlow]
  rw [hv]
  rcases hfirst with rfl | ⟨c0, h00, hc0, hl0, hp0⟩
  · go_enter Tryd.func45, Tryd.ntmps45
    go_wp2_with fail
    go_loopw [3, 5] (fun v3 v5 wr => v3 = .int .i64 0 ∧ v5 = .int .i64 0 ∧ Kp w wr) (fun _ _ _ => 0)
    case atStart => exact ⟨rfl, rfl, (by (repeat (first | with_reducible assumption | with_reducible exact Kp.refl _ | with_reducible refine Kp.drew ?_ | with_reducible refine Kp.drewN ?_ _ | with_reducible refine Kp.alloc ?_ _ | ((with_reducible refine Kp.setCell ?_ ?_ _); rotate_left; (focus (first | omega | (simp; done) | (simp; omega)))) | with_reducible refine Kp.trans ?_ (by assumption))))⟩
    case round =>
      obtain ⟨rfl, rfl, xk⟩ := hrel
      go_wp2_with fail
      (try go_ret)
      exact ⟨rfl, xk⟩
  · clear hlow hv
    go_enter Tryd.func45, Tryd.ntmps45
    go_wp2_with fail
    go_loopw [3, 5] (fun v3 v5 wr => ∃ i : Nat, i ≤ s.length ∧ i ≤ 20 ∧ v5 = .int .i64 (i : Int) ∧ v3 = .int .i64 ((s.take i).foldl (valueStep low) 0) ∧ Kp w wr) (fun _ v5 _ => s.length - (intOf v5).toNat)
    case atStart => exact ⟨0, Nat.zero_le _, by omega, rfl, rfl, (by (repeat (first | with_reducible assumption | with_reducible exact Kp.refl _ | with_reducible refine Kp.drew ?_ | with_reducible refine Kp.drewN ?_ _ | with_reducible refine Kp.alloc ?_ _ | ((with_reducible refine Kp.setCell ?_ ?_ _); rotate_left; (focus (first | omega | (simp; done) | (simp; omega)))) | with_reducible refine Kp.trans ?_ (by assumption))))⟩
    case round =>
      obtain ⟨i, hi, hi2, rfl, rfl, xk⟩ := hrel
      by_cases hlt : i < s.length
      · have ji : decide ((i : Int) < (s.length : Int)) = true := decide_eq_true (by omega)
        by_cases h20 : i < 20
        · have jj : decide ((i : Int) < 20) = true := decide_eq_true (by omega)
          have jj' : decide (i < 20) = true := decide_eq_true h20
          obtain ⟨c, hc⟩ : ∃ c, s[i]? = some c := ⟨s[i], List.getElem?_eq_getElem hlt⟩
          have hcg : (⟨s.toArray⟩ : ByteArray)[i]'(by rw [hsz]; exact hlt) = c := (List.getElem?_eq_some_iff.1 hc).2
          have ht : (s.take (i + 1)).foldl (valueStep low) 0 = valueStep low ((s.take i).foldl (valueStep low) 0) c := by rw [List.take_add_one, hc, List.foldl_append]; rfl
          obtain ⟨n, hn⟩ : ∃ n, (s.take i).foldl (valueStep low) 0 = n := ⟨_, rfl⟩
          rw [hn] at ht ⊢
          by_cases hd : 48 ≤ c.toNat ∧ c.toNat ≤ 57
          · have t1 : decide ((48 : Int) ≤ (c.toNat : Int)) = true := decide_eq_true (by omega)
            have t1' : decide (48 ≤ c.toNat) = true := decide_eq_true (by omega)
            have t2 : decide ((c.toNat : Int) ≤ 57) = true := decide_eq_true (by omega)
            have t2' : decide (c.toNat ≤ 57) = true := decide_eq_true (by omega)
            obtain ⟨d, hdd⟩ : ∃ d : Int, (c.toNat : Int) - 48 = d := ⟨_, rfl⟩
            have u1 : IntKind.u8.wrap d = d := by rw [IntKind.wrap_u8]; omega
            have u2 : IntKind.i64.wrap d = d := by rw [IntKind.wrap_i64]; omega
            have u3 : IntKind.i64.wrap (-d) = -d := by rw [IntKind.wrap_i64]; omega
            have hst : valueStep low n c = IntKind.i64.wrap (IntKind.i64.wrap (n * 10) + (if low then -d else d)) := by unfold valueStep; rw [if_pos hd, hdd]
            rw [hst, IntKind.wrap_i64, IntKind.wrap_i64] at ht
            have HT := Lib.hid ht
            clear hst
            clear ht hn hd hc
            cases low
            · go_wp2_with fail
              go_roundw
              case rel => exact ⟨i + 1, by omega, by omega, by go_num, by rw [HT.out]; simp [wrap64], xk⟩
              case measure => simp [intOf]; omega
            · go_wp2_with fail
              go_roundw
              case rel => exact ⟨i + 1, by omega, by omega, by go_num, by rw [HT.out]; simp [wrap64], xk⟩
              case measure => simp [intOf]; omega
          · have hst : valueStep low n c = n := by unfold valueStep; rw [if_neg hd]
            rw [hst] at ht
            have HT := Lib.hid ht
            clear hst
            by_cases hd1 : 48 ≤ c.toNat
            · have t1 : decide ((48 : Int) ≤ (c.toNat : Int)) = true := decide_eq_true (by omega)
              have t1' : decide (48 ≤ c.toNat) = true := decide_eq_true (by omega)
              have t2 : decide ((c.toNat : Int) ≤ 57) = false := decide_eq_false (by omega)
              have t2' : decide (c.toNat ≤ 57) = false := decide_eq_false (by omega)
              clear ht hn hd hc hd1
              go_wp2_with fail
              go_roundw
              case rel => exact ⟨i + 1, by omega, by omega, by go_num, by rw [HT.out], xk⟩
              case measure => simp [intOf]; omega
            · have t1 : decide ((48 : Int) ≤ (c.toNat : Int)) = false := decide_eq_false (by omega)
              have t1' : decide (48 ≤ c.toNat) = false := decide_eq_false (by omega)
              clear ht hn hd hc hd1
              go_wp2_with fail
              go_roundw
              case rel => exact ⟨i + 1, by omega, by omega, by go_num, by rw [HT.out], xk⟩
              case measure => simp [intOf]; omega
        · obtain rfl : i = 20 := by omega
          have jj : decide (20 < s.length) = true := decide_eq_true hlt
          go_wp2_with fail
          (try go_ret)
          exact ⟨rfl, xk⟩
      · obtain rfl : i = s.length := by omega
        have ji : decide ((s.length : Int) < (s.length : Int)) = false := decide_eq_false (by omega)
        have e : s.take s.length = s.take 20 := by rw [List.take_length, List.take_of_length_le (by omega)]
        rw [e]
        go_wp2_with fail
        (try go_ret)
        exact ⟨rfl, xk⟩
end Go.Proofs.YtkglkbkikgncoaaDoor
