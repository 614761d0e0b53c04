/- Jobs as texts, plain: what a line makes of a job, and a text read line by line. -/
import Derived.Test.YtaekeogaakogbaaGreatDoorG8

namespace Go.Proofs.YtaekeogaakogbaaGreatDoor

open Go.ChangeShapes Go.WideShapes Go.ChangeAt Go.RowKit Go.Shelf

structure Itm where
  k : Int
  h : Int
  f : Int
  s : Int
  o : Int
  r : Int
  n : Int
structure NtD where
  lines : List Int
  pens : List Int
structure Flt where
  c : Int
  h : Int
  w : Int
structure JobD where
  g : List Int
  bal : Bool
  items : List Itm
  notes : List NtD
  floats : List Flt
/-- The words of a geometry, in order. -/
def gw : List (List UInt8) := [[99, 111, 108, 115], [119, 105, 100, 101], [103, 97, 112], [104, 105, 103, 104], [102, 105, 114, 115, 116], [103, 114, 105, 100], [114, 117, 108, 101], [115, 101, 112], [110, 111, 116, 101, 109, 111, 115, 116], [116, 111, 112, 109, 111, 115, 116], [98, 111, 116, 109, 111, 115, 116], [116, 111, 112, 109, 97, 110, 121], [98, 111, 116, 109, 97, 110, 121], [99, 108, 117, 98], [119, 105, 100, 111, 119], [115, 112, 108, 105, 116], [100, 101, 102, 101, 114], [115, 112, 97, 114, 101]]
abbrev wBal : List UInt8 := [98, 97, 108, 97, 110, 99, 101]
abbrev kBox : List UInt8 := [98, 111, 120]
abbrev kGlue : List UInt8 := [103, 108, 117, 101]
abbrev kPen : List UInt8 := [112, 101, 110]
abbrev kMark : List UInt8 := [109, 97, 114, 107]
abbrev kNote : List UInt8 := [110, 111, 116, 101]
abbrev kFloat : List UInt8 := [102, 108, 111, 97, 116]
abbrev kBar : List UInt8 := [98, 97, 114, 114, 105, 101, 114]
/-- A word's place among those of a geometry. -/
def gi (w : List UInt8) : Option Nat := gw.findIdx? (fun x => x == w)
def isVerb (w : List UInt8) : Bool := w == kBox || (w == kGlue || (w == kPen || (w == kMark || (w == kNote || (w == kFloat || w == kBar)))))
def evens : List Int → List Int
  | [] => []
  | [a] => [a]
  | a :: _ :: r => a :: evens r
def odds : List Int → List Int
  | [] => []
  | [_] => []
  | _ :: b :: r => b :: odds r
/-- A job with an item's line more. -/
def addJ (j : JobD) (w : List UInt8) (ns : List Int) : Option JobD :=
  if w = kBox then (match ns with
    | [h, f] => some { j with items := j.items ++ [⟨1, h, f, 0, 0, 0, 0⟩] }
    | _ => none)
  else if w = kGlue then (match ns with
    | [h, s, o, r] => some { j with items := j.items ++ [⟨2, h, 0, s, o, r, 0⟩] }
    | _ => none)
  else if w = kPen then (match ns with
    | [n] => some { j with items := j.items ++ [⟨3, 0, 0, 0, 0, 0, n⟩] }
    | _ => none)
  else if w = kMark then (match ns with
    | [n] => some { j with items := j.items ++ [⟨4, 0, 0, 0, 0, 0, n⟩] }
    | _ => none)
  else if w = kNote then (if ns.length % 2 = 0 then none else some { j with items := j.items ++ [⟨5, 0, 0, 0, 0, 0, (j.notes.length : Int)⟩], notes := j.notes ++ [⟨evens ns, odds ns⟩] })
  else if w = kFloat then (match ns with
    | [c, h, wh] => some { j with items := j.items ++ [⟨6, 0, 0, 0, 0, 0, (j.floats.length : Int)⟩], floats := j.floats ++ [⟨c, h, wh⟩] }
    | _ => none)
  else if w = kBar then (match ns with
    | [] => some { j with items := j.items ++ [⟨7, 0, 0, 0, 0, 0, 0⟩] }
    | _ => none)
  else none
/-- A geometry with a line more; the next word's place. -/
def headJ (j : JobD) (next : Nat) (w : List UInt8) (ns : List Int) : Option (JobD × Nat) :=
  if w = wBal then (if next ≤ 18 ∧ ns = [] then some ({ j with bal := true }, 19) else none)
  else match gi w with
    | none => none
    | some i => if i < next then none else match ns with
      | [n] => if n = 0 then none else some ({ j with g := j.g.set i n }, i + 1)
      | _ => none
def takeJ (st : JobD × Nat) (s : List UInt8) : Option (JobD × Nat) := match parseP s with
  | none => none
  | some (w, ns) => if isVerb w = true then (addJ st.1 w ns).map fun j => (j, 20) else headJ st.1 st.2 w ns
def job0 : JobD := ⟨List.replicate 18 0, false, [], [], []⟩
/- A text, line by line. -/
theorem index10 (c : UInt8) (r : List UInt8) : Lib.index (c :: r) [10] = if c = 10 then 0 else if Lib.index r [10] = -1 then -1 else Lib.index r [10] + 1 := by
  conv => lhs; unfold Lib.index
  by_cases h : c = 10
  · subst h; simp [List.isPrefixOf]
  · have : ([10] : List UInt8).isPrefixOf (c :: r) = false := by
      simp only [List.isPrefixOf, Bool.and_true, beq_eq_false_iff_ne]
      exact fun e => h e.symm
    rw [this, if_neg h]
    by_cases h2 : Lib.index r [10] = -1 <;> simp [h2]
theorem index10_no : ∀ {a : List UInt8}, (10 : UInt8) ∉ a → Lib.index a [10] = -1
  | [], _ => by decide
  | c :: r, h => by
    rw [index10, if_neg (fun e => h (by rw [e]; exact List.mem_cons_self)), if_pos (index10_no fun hr => h (List.mem_cons_of_mem _ hr))]
theorem index10_at (b : List UInt8) : ∀ {a : List UInt8}, (10 : UInt8) ∉ a → Lib.index (a ++ 10 :: b) [10] = (a.length : Int)
  | [], _ => by rw [List.nil_append, index10, if_pos rfl]; rfl
  | c :: r, h => by
    have ih := index10_at b (a := r) (fun hr => h (List.mem_cons_of_mem _ hr))
    rw [List.cons_append, index10, if_neg (fun e => h (by rw [e]; exact List.mem_cons_self)), ih, if_neg (by omega), List.length_cons]
    omega
theorem cut10_at (a b : List UInt8) (h : (10 : UInt8) ∉ a) : Lib.cut (a ++ 10 :: b) [10] = (a, b, true) := by
  unfold Lib.cut
  rw [index10_at b h, if_pos (by omega), Int.toNat_natCast, List.take_left' rfl, ← List.drop_drop, List.drop_left' rfl]
  rfl
theorem cut10_no (a : List UInt8) (h : (10 : UInt8) ∉ a) : Lib.cut a [10] = (a, [], false) := by
  unfold Lib.cut
  rw [index10_no h, if_neg (by omega)]
theorem split10 : ∀ (l : List UInt8), (10 : UInt8) ∈ l → ∃ a b, l = a ++ 10 :: b ∧ (10 : UInt8) ∉ a
  | [], h => by cases h
  | c :: r, h => by
    by_cases e : c = 10
    · exact ⟨[], r, by rw [e]; rfl, by simp⟩
    · have hr : (10 : UInt8) ∈ r := by
        rcases List.mem_cons.1 h with h | h
        · exact absurd h.symm e
        · exact h
      obtain ⟨a, b, rfl, hn⟩ := split10 r hr
      exact ⟨c :: a, b, rfl, fun hm => by
        rcases List.mem_cons.1 hm with hm | hm
        · exact e hm.symm
        · exact hn hm⟩
def restK (s : List UInt8) : Nat → List UInt8
  | 0 => s
  | k + 1 => (Lib.cut (restK s k) [10]).2.1
def lineK (s : List UInt8) (k : Nat) : List UInt8 := (Lib.cut (restK s k) [10]).1
/-- The job and the next word's place behind k lines. -/
def stK (s : List UInt8) : Nat → Option (JobD × Nat)
  | 0 => some (job0, 0)
  | k + 1 => (stK s k).bind fun st => takeJ st (lineK s k)
/-- The line k stands where it can. -/
def Good (s : List UInt8) (k : Nat) : Prop := restK s k ≠ [] ∧ (Lib.cut (restK s k) [10]).2.2 = true ∧ (stK s (k + 1)).isSome = true
theorem cut_short (r : List UInt8) (h : (Lib.cut r [10]).2.2 = true) : ∃ a, (10 : UInt8) ∉ a ∧ r = a ++ 10 :: (Lib.cut r [10]).2.1 ∧ (Lib.cut r [10]).1 = a := by
  by_cases hm : (10 : UInt8) ∈ r
  · obtain ⟨a, b, rfl, hn⟩ := split10 r hm
    rw [cut10_at a b hn]
    exact ⟨a, hn, rfl, rfl⟩
  · rw [cut10_no r hm] at h
    cases h
theorem rest_len (s : List UInt8) : ∀ k, (∀ j, j < k → Good s j) → (restK s k).length + k ≤ s.length
  | 0, _ => by simp [restK]
  | k + 1, h => by
    have ih := rest_len s k fun j hj => h j (by omega)
    obtain ⟨_, h2, _⟩ := h k (by omega)
    obtain ⟨a, _, e, _⟩ := cut_short _ h2
    have := congrArg List.length e
    rw [List.length_append, List.length_cons] at this
    show (Lib.cut (restK s k) [10]).2.1.length + (k + 1) ≤ s.length
    omega
theorem cut_le (r : List UInt8) : (Lib.cut r [10]).1.length ≤ r.length ∧ (Lib.cut r [10]).2.1.length ≤ r.length := by
  by_cases hm : (10 : UInt8) ∈ r
  · obtain ⟨a, b, rfl, hn⟩ := split10 r hm
    rw [cut10_at a b hn, List.length_append, List.length_cons]
    exact ⟨by show a.length ≤ _; omega, by show b.length ≤ _; omega⟩
  · rw [cut10_no r hm]
    exact ⟨Nat.le_refl _, Nat.zero_le _⟩
theorem rest_le (s : List UInt8) : ∀ k, (restK s k).length ≤ s.length
  | 0 => Nat.le_refl _
  | k + 1 => Nat.le_trans (cut_le _).2 (rest_le s k)
theorem good_or (s : List UInt8) : ∀ m, (∀ j, j < m → Good s j) ∨ ∃ N, N < m ∧ (∀ j, j < N → Good s j) ∧ ¬ Good s N
  | 0 => .inl fun j h => by omega
  | m + 1 => by
    rcases good_or s m with h | ⟨N, h1, h2⟩
    · by_cases hg : Good s m
      · exact .inl fun j hj => by
          by_cases e : j = m
          · rw [e]; exact hg
          · exact h j (by omega)
      · exact .inr ⟨m, by omega, h, hg⟩
    · exact .inr ⟨N, by omega, h2⟩
theorem good_end (s : List UInt8) : ∃ N, N ≤ s.length ∧ (∀ j, j < N → Good s j) ∧ ¬ Good s N := by
  rcases good_or s (s.length + 1) with h | ⟨N, h1, h2⟩
  · have := rest_len s _ h
    omega
  · exact ⟨N, by omega, h2⟩
theorem good_uniq {s : List UInt8} {N M : Nat} (h1 : ∀ j, j < N → Good s j) (h2 : ¬ Good s N) (k1 : ∀ j, j < M → Good s j) (k2 : ¬ Good s M) : N = M := by
  rcases Nat.lt_trichotomy N M with h | h | h
  · exact absurd (k1 N h) h2
  · exact h
  · exact absurd (h1 M h) k2
theorem good_st {s : List UInt8} : ∀ {k : Nat}, (∀ j, j < k → Good s j) → ∃ st, stK s k = some st
  | 0, _ => ⟨_, rfl⟩
  | k + 1, h => Option.isSome_iff_exists.1 (h k (by omega)).2.2
/- How much has been read; the numbers stay numbers. -/
def Itm.ok (x : Itm) : Prop := I64 x.k ∧ I64 x.h ∧ I64 x.f ∧ I64 x.s ∧ I64 x.o ∧ I64 x.r ∧ I64 x.n
def NtD.ok (x : NtD) : Prop := (∀ n, n ∈ x.lines → I64 n) ∧ ∀ n, n ∈ x.pens → I64 n
def Flt.ok (x : Flt) : Prop := I64 x.c ∧ I64 x.h ∧ I64 x.w
structure JobD.ok (j : JobD) : Prop where
  len : j.g.length = 18
  g : ∀ n, n ∈ j.g → I64 n
  items : ∀ x, x ∈ j.items → x.ok
  notes : ∀ x, x ∈ j.notes → x.ok
  floats : ∀ x, x ∈ j.floats → x.ok
theorem job0_ok : job0.ok := ⟨by decide, (fun n hn => by rw [List.eq_of_mem_replicate hn]; unfold I64; decide), (fun _ h => by cases h), (fun _ h => by cases h), (fun _ h => by cases h)⟩
theorem evens_mem : ∀ {l : List Int} {n : Int}, n ∈ evens l → n ∈ l
  | [], _, h => by cases h
  | [a], _, h => h
  | a :: b :: r, n, h => by
    unfold evens at h
    rcases List.mem_cons.1 h with h | h
    · rw [h]; exact List.mem_cons_self
    · exact List.mem_cons_of_mem _ (List.mem_cons_of_mem _ (evens_mem h))
theorem odds_mem : ∀ {l : List Int} {n : Int}, n ∈ odds l → n ∈ l
  | [], _, h => by cases h
  | [a], _, h => by cases h
  | a :: b :: r, n, h => by
    unfold odds at h
    rcases List.mem_cons.1 h with h | h
    · rw [h]; exact List.mem_cons_of_mem _ List.mem_cons_self
    · exact List.mem_cons_of_mem _ (List.mem_cons_of_mem _ (odds_mem h))
/-- One more of each at most. -/
def JobD.few (j : JobD) (n : Nat) : Prop := j.items.length ≤ n ∧ j.notes.length ≤ n ∧ j.floats.length ≤ n
theorem addJ_ok {j j' : JobD} {w : List UInt8} {ns : List Int} (h : addJ j w ns = some j') (hj : j.ok) (hi : ∀ n, n ∈ ns → I64 n) {k : Nat} (hf : j.few k) (hk : k ≤ 1000000) : j'.ok ∧ j'.few (k + 1) := by
  obtain ⟨a1, a2, a3, a4, a5⟩ := hj
  obtain ⟨f1, f2, f3⟩ := hf
  have z : I64 0 := by unfold I64; decide
  have lit : ∀ n : Int, 0 ≤ n → n ≤ 1000000 → I64 n := fun n h0 h1 => by unfold I64; omega
  have put : ∀ x : Itm, x.ok → ∀ y, y ∈ j.items ++ [x] → y.ok := fun x hx y hy => by
    rcases List.mem_append.1 hy with hy | hy
    · exact a3 y hy
    · rw [List.mem_singleton] at hy; rw [hy]; exact hx
  have len : ∀ x : Itm, (j.items ++ [x]).length ≤ k + 1 := fun x => by rw [List.length_append, List.length_singleton]; omega
  unfold addJ at h
  repeat' split at h
  all_goals (first | (cases h; done) | skip)
  all_goals
    cases h
    refine ⟨⟨a1, a2, put _ ?_, ?_, ?_⟩, len _, ?_, ?_⟩
  all_goals (first
    | exact a4
    | exact a5
    | (show j.notes.length ≤ k + 1; omega)
    | (show j.floats.length ≤ k + 1; omega)
    | (show (j.notes ++ [_]).length ≤ k + 1; rw [List.length_append, List.length_singleton]; omega)
    | (show (j.floats ++ [_]).length ≤ k + 1; rw [List.length_append, List.length_singleton]; omega)
    | (unfold Itm.ok; refine ⟨?_, ?_, ?_, ?_, ?_, ?_, ?_⟩ <;> dsimp only <;> first | (refine lit _ ?_ ?_ <;> omega) | (refine hi _ ?_; simp; done))
    | skip)
  · intro x hx
    rcases List.mem_append.1 hx with hx | hx
    · exact a4 x hx
    · rw [List.mem_singleton] at hx; rw [hx]; exact ⟨fun n hn => hi n (evens_mem hn), fun n hn => hi n (odds_mem hn)⟩
  · intro x hx
    rcases List.mem_append.1 hx with hx | hx
    · exact a5 x hx
    · rw [List.mem_singleton] at hx; rw [hx]; exact ⟨hi _ (by simp), hi _ (by simp), hi _ (by simp)⟩
theorem gi_lt {w : List UInt8} {i : Nat} (h : gi w = some i) : i < 18 ∧ gw[i]? = some w := by
  unfold gi at h
  obtain ⟨h1, h2, _⟩ := List.findIdx?_eq_some_iff_getElem.1 h
  refine ⟨h1, ?_⟩
  rw [List.getElem?_eq_getElem h1]
  exact congrArg some (beq_iff_eq.1 h2)
theorem headJ_ok {j j' : JobD} {next next' : Nat} {w : List UInt8} {ns : List Int} (h : headJ j next w ns = some (j', next')) (hj : j.ok) (hi : ∀ n, n ∈ ns → I64 n) {k : Nat} (hf : j.few k) : j'.ok ∧ j'.few (k + 1) ∧ next' ≤ 19 := by
  obtain ⟨a1, a2, a3, a4, a5⟩ := hj
  obtain ⟨f1, f2, f3⟩ := hf
  unfold headJ at h
  split at h
  · split at h
    · cases h
      exact ⟨⟨a1, a2, a3, a4, a5⟩, ⟨Nat.le_succ_of_le f1, Nat.le_succ_of_le f2, Nat.le_succ_of_le f3⟩, Nat.le_refl _⟩
    · cases h
  · split at h
    · cases h
    · rename_i i hg
      split at h
      · cases h
      · split at h
        · split at h
          · cases h
          · cases h
            refine ⟨⟨by show (j.g.set i _).length = 18; rw [List.length_set]; exact a1, fun n hn => ?_, a3, a4, a5⟩, ⟨Nat.le_succ_of_le f1, Nat.le_succ_of_le f2, Nat.le_succ_of_le f3⟩, by have := (gi_lt hg).1; omega⟩
            rcases List.mem_or_eq_of_mem_set hn with hn | hn
            · exact a2 n hn
            · rw [hn]; exact hi _ (by simp)
        · cases h
theorem takeJ_ok {j j' : JobD} {next next' : Nat} {s : List UInt8} (h : takeJ (j, next) s = some (j', next')) (hj : j.ok) {k : Nat} (hf : j.few k) (hk : k ≤ 1000000) : j'.ok ∧ j'.few (k + 1) ∧ next' ≤ 20 := by
  unfold takeJ at h
  split at h
  · cases h
  · rename_i w ns hp
    have hi := (parseP_ok hp).2.1
    split at h
    · rw [Option.map_eq_some_iff] at h
      obtain ⟨j2, h1, h2⟩ := h
      cases h2
      obtain ⟨q1, q2⟩ := addJ_ok h1 hj hi hf hk
      exact ⟨q1, q2, Nat.le_refl _⟩
    · obtain ⟨q1, q2, q3⟩ := headJ_ok h hj hi hf
      exact ⟨q1, q2, by omega⟩
theorem stK_ok {s : List UInt8} : ∀ {k : Nat} {j : JobD} {next : Nat}, k ≤ 1000000 → stK s k = some (j, next) → j.ok ∧ j.few k ∧ next ≤ 20
  | 0, j, next, _, h => by cases h; exact ⟨job0_ok, ⟨Nat.le_refl _, Nat.le_refl _, Nat.le_refl _⟩, Nat.zero_le _⟩
  | k + 1, j', next', hk, h => by
    unfold stK at h
    rw [Option.bind_eq_some_iff] at h
    obtain ⟨⟨j, next⟩, h1, h2⟩ := h
    obtain ⟨q1, q2, _⟩ := stK_ok (by omega) h1
    exact takeJ_ok h2 q1 q2 (by omega)
end Go.Proofs.YtaekeogaakogbaaGreatDoor
