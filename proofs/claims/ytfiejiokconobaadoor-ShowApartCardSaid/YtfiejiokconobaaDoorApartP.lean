/- A text tells its pages: the plain law. -/
import Derived.Test.YtfiejiokconobaaDoorText

import Derived.Test.YtfiejiokconobaaDoorSame

namespace Go.Proofs.YtfiejiokconobaaDoor

open Go.RowKit

/-! Numbers. -/
theorem dec_small {u : Nat} (h : u < 10) : Lib.decDigits u = [UInt8.ofNat (48 + u)] := by rw [Lib.decDigits, dif_pos h]
theorem dec_big {u : Nat} (h : ¬ u < 10) : Lib.decDigits u = Lib.decDigits (u / 10) ++ [UInt8.ofNat (48 + u % 10)] := by rw [Lib.decDigits, dif_neg h]
theorem dec_ne : ∀ (u : Nat), Lib.decDigits u ≠ []
  | u => by
    rw [Lib.decDigits]
    split
    · simp
    · simp
theorem dec_range : ∀ (u : Nat) (c : UInt8), c ∈ Lib.decDigits u → 48 ≤ c.toNat ∧ c.toNat ≤ 57 := by
  intro u
  induction u using Nat.strongRecOn with
  | _ u ih =>
    intro c hc
    rw [Lib.decDigits] at hc
    split at hc
    · next h =>
      simp only [List.mem_singleton] at hc
      subst hc
      rw [UInt8.toNat_ofNat_of_lt' (by simp [UInt8.size]; omega)]; omega
    · next h =>
      rw [List.mem_append] at hc
      rcases hc with hc | hc
      · exact ih _ (by omega) c hc
      · simp only [List.mem_singleton] at hc
        subst hc
        rw [UInt8.toNat_ofNat_of_lt' (by simp [UInt8.size]; omega)]; omega
theorem dec_inj : ∀ (u v : Nat), Lib.decDigits u = Lib.decDigits v → u = v := by
  intro u
  induction u using Nat.strongRecOn with
  | _ u ih =>
    intro v h
    have dig : ∀ {a b : Nat}, a < 10 → b < 10 → UInt8.ofNat (48 + a) = UInt8.ofNat (48 + b) → a = b := by
      intro a b ha hb h
      have := congrArg UInt8.toNat h
      rw [UInt8.toNat_ofNat_of_lt' (by simp [UInt8.size]; omega), UInt8.toNat_ofNat_of_lt' (by simp [UInt8.size]; omega)] at this
      omega
    by_cases h1 : u < 10
    · rw [dec_small h1] at h
      by_cases h2 : v < 10
      · rw [dec_small h2] at h
        exact dig h1 h2 (by simpa using h)
      · rw [dec_big h2] at h
        have := congrArg List.length h
        have hne := dec_ne (v / 10)
        rw [List.length_append] at this
        simp [hne] at this
    · rw [dec_big h1] at h
      by_cases h2 : v < 10
      · rw [dec_small h2] at h
        have := congrArg List.length h
        have hne := dec_ne (u / 10)
        rw [List.length_append] at this
        simp [hne] at this
      · rw [dec_big h2] at h
        have h3 := List.append_inj' h rfl
        have h4 := ih _ (by omega) _ h3.1
        have h5 := dig (Nat.mod_lt _ (by omega)) (Nat.mod_lt _ (by omega)) (by simpa using h3.2)
        omega
theorem itoa_inj {m n : Int} (h : Lib.itoa m = Lib.itoa n) : m = n := by
  unfold Lib.itoa at h
  split at h
  · split at h
    · have := dec_inj _ _ (List.cons.inj h).2
      omega
    · exfalso
      have hm : (45 : UInt8) ∈ Lib.decDigits n.toNat := by rw [← h]; exact List.mem_cons_self
      have := (dec_range _ _ hm).1
      simp at this
  · split at h
    · exfalso
      have hm : (45 : UInt8) ∈ Lib.decDigits m.toNat := by rw [h]; exact List.mem_cons_self
      have := (dec_range _ _ hm).1
      simp at this
    · have := dec_inj _ _ h
      omega
theorem itoa_clean (n : Int) (c : UInt8) (hc : c ∈ Lib.itoa n) : c ≠ 32 ∧ c ≠ 10 := by
  unfold Lib.itoa at hc
  have key : ∀ u, c ∈ Lib.decDigits u → c ≠ 32 ∧ c ≠ 10 := fun u h => by
    have := dec_range u c h
    constructor <;> (intro e; subst e; simp at this)
  split at hc
  · rcases List.mem_cons.1 hc with rfl | hc
    · decide
    · exact key _ hc
  · exact key _ hc
/-! Splitting at a byte. -/
/-- Two texts that are cut by the byte c at the same places. -/
theorem cut_inj {c : UInt8} : ∀ {a b x y : List UInt8}, c ∉ a → c ∉ b → a ++ c :: x = b ++ c :: y → a = b ∧ x = y
  | [], [], x, y, _, _, h => ⟨rfl, (List.cons.inj h).2⟩
  | [], d :: b, x, y, _, hb, h => by
    exfalso
    have := (List.cons.inj h).1
    subst this
    exact hb List.mem_cons_self
  | d :: a, [], x, y, ha, _, h => by
    exfalso
    have := (List.cons.inj h).1
    subst this
    exact ha List.mem_cons_self
  | d :: a, e :: b, x, y, ha, hb, h => by
    obtain ⟨h1, h2⟩ := List.cons.inj h
    subst h1
    obtain ⟨h3, h4⟩ := cut_inj (fun m => ha (List.mem_cons_of_mem _ m)) (fun m => hb (List.mem_cons_of_mem _ m)) h2
    exact ⟨by rw [h3], h4⟩
theorem nums_inj : ∀ {a b : List Int}, a.flatMap numL = b.flatMap numL → a = b
  | [], [], _ => rfl
  | [], n :: b, h => by simp [numL] at h
  | m :: a, [], h => by simp [numL] at h
  | m :: a, n :: b, h => by
    rw [List.flatMap_cons, List.flatMap_cons] at h
    unfold numL at h
    simp only [List.cons_append, List.cons.injEq, true_and] at h
    have key : ∀ (l : List Int), l.flatMap numL = [] ∨ ∃ t, l.flatMap numL = 32 :: t := by
      intro l
      cases l with
      | nil => exact .inl rfl
      | cons x l => exact .inr ⟨Lib.itoa x ++ l.flatMap numL, by rw [List.flatMap_cons]; rfl⟩
    have cl : ∀ n : Int, (32 : UInt8) ∉ Lib.itoa n := fun n h => (itoa_clean n _ h).1 rfl
    change Lib.itoa m ++ a.flatMap numL = Lib.itoa n ++ b.flatMap numL at h
    rcases key a with ha | ⟨ta, ha⟩
    · rcases key b with hb | ⟨tb, hb⟩
      · rw [ha, hb, List.append_nil, List.append_nil] at h
        rw [itoa_inj h, nums_inj (a := a) (b := b) (by rw [ha, hb])]
      · exfalso
        rw [ha, hb, List.append_nil] at h
        exact cl m (by rw [h]; simp)
    · rcases key b with hb | ⟨tb, hb⟩
      · exfalso
        rw [ha, hb, List.append_nil] at h
        exact cl n (by rw [← h]; simp)
      · rw [ha, hb] at h
        obtain ⟨h1, h2⟩ := cut_inj (cl m) (cl n) h
        rw [itoa_inj h1, nums_inj (a := a) (b := b) (by rw [ha, hb, h2])]
/-- A line: a word, and numbers. -/
structure Ln where
  w : List UInt8
  n : List Int
def Ln.t (x : Ln) : List UInt8 := lineL x.w x.n
def Ln.clean (x : Ln) : Prop := 32 ∉ x.w ∧ 10 ∉ x.w
theorem flat_clean (l : List Int) : (10 : UInt8) ∉ l.flatMap numL := by
  intro h
  obtain ⟨n, _, hn⟩ := List.mem_flatMap.1 h
  unfold numL at hn
  rcases List.mem_cons.1 hn with e | e
  · cases e
  · exact (itoa_clean n _ e).2 rfl
theorem Ln.t_clean {x : Ln} (h : x.clean) : (10 : UInt8) ∉ x.t := by
  unfold Ln.t lineL
  intro hm
  rcases List.mem_append.1 hm with e | e
  · exact h.2 e
  · exact flat_clean _ e
theorem Ln.t_inj {x y : Ln} (hx : x.clean) (hy : y.clean) (h : x.t = y.t) : x = y := by
  obtain ⟨xw, xn⟩ := x
  obtain ⟨yw, yn⟩ := y
  unfold Ln.t lineL at h
  simp only at h
  cases xn with
  | nil =>
    cases yn with
    | nil => simp at h; rw [h]
    | cons n yn =>
      exfalso
      simp only [List.flatMap_nil, List.append_nil] at h
      exact hx.1 (by rw [h, List.flatMap_cons]; simp [numL])
  | cons m xn =>
    cases yn with
    | nil =>
      exfalso
      simp only [List.flatMap_nil, List.append_nil] at h
      exact hy.1 (by rw [← h, List.flatMap_cons]; simp [numL])
    | cons n yn =>
      have h' := h
      rw [List.flatMap_cons, List.flatMap_cons] at h
      simp only [numL, List.cons_append] at h
      obtain ⟨h1, h2⟩ := cut_inj hx.1 hy.1 h
      subst h1
      rw [nums_inj (List.append_cancel_left h')]
theorem lines_inj : ∀ {a b : List Ln}, (∀ x, x ∈ a → x.clean) → (∀ x, x ∈ b → x.clean) → a.flatMap (fun x => x.t ++ [10]) = b.flatMap (fun x => x.t ++ [10]) → a = b
  | [], [], _, _, _ => rfl
  | [], y :: b, _, _, h => by simp at h
  | x :: a, [], _, _, h => by simp at h
  | x :: a, y :: b, ha, hb, h => by
    rw [List.flatMap_cons, List.flatMap_cons, List.append_assoc, List.append_assoc] at h
    have hx := ha x List.mem_cons_self
    have hy := hb y List.mem_cons_self
    obtain ⟨h1, h2⟩ := cut_inj (Ln.t_clean hx) (Ln.t_clean hy) h
    rw [Ln.t_inj hx hy h1, lines_inj (fun z hz => ha z (List.mem_cons_of_mem _ hz)) (fun z hz => hb z (List.mem_cons_of_mem _ hz)) h2]
end Go.Proofs.YtfiejiokconobaaDoor
