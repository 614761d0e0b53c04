/- A text tells its pages: lines, and what they tell. -/
import Derived.Test.YtfiejiokconobaaDoorApartP

namespace Go.Proofs.YtfiejiokconobaaDoor

open Go.RowKit

def wBox : List UInt8 := [98, 111, 120]
def wFloat : List UInt8 := [102, 108, 111, 97, 116]
def wRule : List UInt8 := [114, 117, 108, 101]
def wLine : List UInt8 := [108, 105, 110, 101]
def wThing : List UInt8 := [116, 104, 105, 110, 103]
def wPage : List UInt8 := [112, 97, 103, 101]
def wLane : List UInt8 := [108, 97, 110, 101]
def putLn (p : Put) : Ln :=
  if p.k = 1 then ⟨wBox, [p.n, p.y, p.h]⟩ else if p.k = 2 then ⟨wFloat, [p.n, p.y, p.h]⟩
  else if p.k = 3 then ⟨wRule, [p.y, p.h]⟩ else if p.k = 4 then ⟨wLine, [p.n, p.l, p.y, p.h]⟩
  else ⟨wThing, [p.k, p.n, p.l, p.y, p.h]⟩
theorem putLn_t (p : Put) : (putLn p).t = putL p := by
  unfold putLn putL Ln.t
  split
  · rfl
  · split
    · rfl
    · split
      · rfl
      · split <;> rfl
def isPut (x : Ln) : Prop := x.w ≠ wPage ∧ x.w ≠ wLane
theorem putLn_is (p : Put) : isPut (putLn p) ∧ (putLn p).clean := by
  unfold putLn isPut Ln.clean
  split
  · (dsimp only; decide)
  · split
    · (dsimp only; decide)
    · split
      · (dsimp only; decide)
      · split <;> (dsimp only; decide)
def laneLn (x : Lane) : Ln := ⟨wLane, [x.x]⟩
def pageLn (i : Nat) (p : Page) : Ln := ⟨wPage, [(i : Int), p.t, p.f, p.l]⟩
def laneLs (x : Lane) : List Ln := laneLn x :: x.s.l.map putLn
def linesF : Nat → List Page → List Ln
  | _, [] => []
  | i, p :: r => pageLn i p :: (p.s.l.flatMap laneLs ++ linesF (i + 1) r)
def txt (x : Ln) : List UInt8 := x.t ++ [10]
theorem laneLs_t (x : Lane) : (laneLs x).flatMap txt = laneL x := by
  unfold laneLs laneL
  rw [List.flatMap_cons, List.flatMap_map]
  show laneH x ++ _ = _
  congr 1
  have : (fun p => txt (putLn p)) = putN := by funext p; unfold txt putN; rw [putLn_t]
  exact congrArg (fun f => x.s.l.flatMap f) this
def pagesF : Nat → List Page → List UInt8
  | _, [] => []
  | i, p :: r => pageL i p ++ pagesF (i + 1) r
theorem linesF_t : ∀ (l : List Page) (i : Nat), (linesF i l).flatMap txt = pagesF i l
  | [], _ => rfl
  | p :: r, i => by
    unfold linesF pagesF pageL
    rw [List.flatMap_cons, List.flatMap_append, linesF_t r, List.flatMap_assoc]
    have : (fun x => (laneLs x).flatMap txt) = laneL := by funext x; exact laneLs_t x
    rw [this, ← List.append_assoc]; rfl
theorem pagesN_F : ∀ (l : List Page) (i : Nat), (List.range l.length).flatMap (fun j => (l[j]?).elim [] (pageL (i + j))) = pagesF i l
  | [], _ => rfl
  | p :: r, i => by
    rw [List.length_cons, List.range_succ_eq_map, List.flatMap_cons, List.flatMap_map]
    unfold pagesF
    rw [← pagesN_F r (i + 1)]
    show pageL (i + 0) p ++ _ = _
    rw [Nat.add_zero]
    congr 1
    have : (fun j => ((p :: r)[Nat.succ j]?).elim [] (pageL (i + Nat.succ j))) = fun j => (r[j]?).elim [] (pageL (i + 1 + j)) := by
      funext j
      rw [List.getElem?_cons_succ, show i + Nat.succ j = i + 1 + j by omega]
    exact congrArg (fun f => (List.range r.length).flatMap f) this
theorem pagesN_eq (l : List Page) : pagesN l l.length = (linesF 0 l).flatMap txt := by
  rw [linesF_t, ← pagesN_F]
  unfold pagesN
  congr 1
  funext j
  rw [Nat.zero_add]
theorem lane_clean : ∀ (x : Lane) (z : Ln), z ∈ laneLs x → z.clean := by
  intro x z hz
  unfold laneLs at hz
  rcases List.mem_cons.1 hz with rfl | hz
  · unfold laneLn Ln.clean; dsimp only; decide
  · obtain ⟨p, _, rfl⟩ := List.mem_map.1 hz
    exact (putLn_is p).2
theorem lines_clean : ∀ (l : List Page) (i : Nat) (z : Ln), z ∈ linesF i l → z.clean
  | [], _, z, h => by cases h
  | p :: r, i, z, h => by
    unfold linesF at h
    rcases List.mem_cons.1 h with rfl | h
    · unfold pageLn Ln.clean; dsimp only; decide
    · rcases List.mem_append.1 h with h | h
      · obtain ⟨x, _, hx⟩ := List.mem_flatMap.1 h
        exact lane_clean x z hx
      · exact lines_clean r _ z h
theorem span_inj {P : Ln → Prop} : ∀ {A B R S : List Ln}, (∀ x, x ∈ A → P x) → (∀ x, x ∈ B → P x) → (∀ x r, R = x :: r → ¬ P x) → (∀ x r, S = x :: r → ¬ P x) → A ++ R = B ++ S → A = B ∧ R = S
  | [], [], R, S, _, _, _, _, h => ⟨rfl, h⟩
  | [], b :: B, R, S, _, hB, hR, _, h => absurd (hB b List.mem_cons_self) (hR b _ h)
  | a :: A, [], R, S, hA, _, _, hS, h => absurd (hA a List.mem_cons_self) (hS a _ h.symm)
  | a :: A, b :: B, R, S, hA, hB, hR, hS, h => by
    obtain ⟨h1, h2⟩ := List.cons.inj h
    obtain ⟨h3, h4⟩ := span_inj (fun x hx => hA x (List.mem_cons_of_mem _ hx)) (fun x hx => hB x (List.mem_cons_of_mem _ hx)) hR hS h2
    exact ⟨by rw [h1, h3], h4⟩
def headPage (R : List Ln) : Prop := ∀ x r, R = x :: r → x.w = wPage
def laneD (x : Lane) : Int × List Ln := (x.x, x.s.l.map putLn)
theorem lanes_inj : ∀ {a b : List Lane} {R S : List Ln}, headPage R → headPage S → a.flatMap laneLs ++ R = b.flatMap laneLs ++ S → a.map laneD = b.map laneD ∧ R = S
  | [], [], _, _, _, _, h => ⟨rfl, h⟩
  | [], y :: b, R, S, hR, _, h => by
    rw [List.flatMap_cons] at h
    unfold laneLs at h
    have := hR (laneLn y) _ h
    exact absurd this (by unfold laneLn; dsimp only; decide)
  | x :: a, [], R, S, _, hS, h => by
    rw [List.flatMap_cons] at h
    unfold laneLs at h
    have := hS (laneLn x) _ h.symm
    exact absurd this (by unfold laneLn; dsimp only; decide)
  | x :: a, y :: b, R, S, hR, hS, h => by
    have hd : ∀ (l : List Lane) (T : List Ln), headPage T → ∀ z r, l.flatMap laneLs ++ T = z :: r → ¬ isPut z := by
      intro l T hT z r hz
      cases l with
      | nil => exact fun hp => hp.1 (hT z r hz)
      | cons v l =>
        rw [List.flatMap_cons] at hz
        unfold laneLs at hz
        have := (List.cons.inj hz).1
        subst this
        exact fun hp => hp.2 rfl
    rw [List.flatMap_cons, List.flatMap_cons, List.append_assoc, List.append_assoc] at h
    have h0 := h
    unfold laneLs at h0
    rw [List.cons_append, List.cons_append] at h0
    obtain ⟨h1, h2⟩ := List.cons.inj h0
    have hx : x.x = y.x := by
      have := congrArg Ln.n h1
      simpa [laneLn] using this
    obtain ⟨h3, h4⟩ := span_inj (P := isPut) (fun z hz => by obtain ⟨p, _, rfl⟩ := List.mem_map.1 hz; exact (putLn_is p).1) (fun z hz => by obtain ⟨p, _, rfl⟩ := List.mem_map.1 hz; exact (putLn_is p).1) (hd a R hR) (hd b S hS) h2
    obtain ⟨h5, h6⟩ := lanes_inj hR hS h4
    exact ⟨by rw [List.map_cons, List.map_cons, h5]; unfold laneD; rw [hx, h3], h6⟩
theorem head_linesF : ∀ (l : List Page) (i : Nat), headPage (linesF i l)
  | [], _ => fun x r h => by cases h
  | p :: r, i => fun x t h => by
    unfold linesF at h
    rw [← (List.cons.inj h).1]; rfl
def pageD (p : Page) : Int × Int × Int × List (Int × List Ln) := (p.t, p.f, p.l, p.s.l.map laneD)
theorem pages_inj : ∀ {a b : List Page} {i : Nat}, linesF i a = linesF i b → a.map pageD = b.map pageD
  | [], [], _, _ => rfl
  | [], q :: b, _, h => by unfold linesF at h; cases h
  | p :: a, [], _, h => by unfold linesF at h; cases h
  | p :: a, q :: b, i, h => by
    unfold linesF at h
    obtain ⟨h1, h2⟩ := List.cons.inj h
    obtain ⟨h3, h4⟩ := lanes_inj (head_linesF a _) (head_linesF b _) h2
    have h5 := pages_inj h4
    have hn := congrArg Ln.n h1
    simp only [pageLn, List.cons.injEq, true_and, and_true] at hn
    rw [List.map_cons, List.map_cons, h5]
    unfold pageD
    rw [hn.1, hn.2.1, hn.2.2, h3]
/-- A thing whose text does not tell all of it. -/
def badP (p : Put) : Bool := (decide (0 < p.k) && decide (p.k < 4) && !(p.l == 0)) || (p.k == 3 && !(p.n == 0))
theorem putLn_inj {p q : Put} (hp : badP p = false) (hq : badP q = false) (h : putLn p = putLn q) : p = q := by
  obtain ⟨pk, pn, pl, py, ph⟩ := p
  obtain ⟨qk, qn, ql, qy, qh⟩ := q
  unfold badP at hp hq
  simp only [Bool.or_eq_false_iff, Bool.and_eq_false_iff, decide_eq_false_iff_not, Bool.not_eq_false', beq_iff_eq, beq_eq_false_iff_ne] at hp hq
  unfold putLn at h
  simp only at h
  by_cases a1 : pk = 1
  · by_cases b1 : qk = 1
    · rw [if_pos a1, if_pos b1] at h
      simp only [Ln.mk.injEq, List.cons.injEq, and_true, true_and] at h
      simp only [Put.mk.injEq]; omega
    · rw [if_pos a1, if_neg b1] at h
      by_cases b2 : qk = 2
      · rw [if_pos b2] at h; simp [wBox, wFloat] at h
      · rw [if_neg b2] at h
        by_cases b3 : qk = 3
        · rw [if_pos b3] at h; simp [wBox, wRule] at h
        · rw [if_neg b3] at h
          by_cases b4 : qk = 4
          · rw [if_pos b4] at h; simp [wBox, wLine] at h
          · rw [if_neg b4] at h; simp [wBox, wThing] at h
  · rw [if_neg a1] at h
    by_cases a2 : pk = 2
    · rw [if_pos a2] at h
      by_cases b1 : qk = 1
      · rw [if_pos b1] at h; simp [wBox, wFloat] at h
      · rw [if_neg b1] at h
        by_cases b2 : qk = 2
        · rw [if_pos b2] at h
          simp only [Ln.mk.injEq, List.cons.injEq, and_true, true_and] at h
          simp only [Put.mk.injEq]; omega
        · rw [if_neg b2] at h
          by_cases b3 : qk = 3
          · rw [if_pos b3] at h; simp [wFloat, wRule] at h
          · rw [if_neg b3] at h
            by_cases b4 : qk = 4
            · rw [if_pos b4] at h; simp [wFloat, wLine] at h
            · rw [if_neg b4] at h; simp [wFloat, wThing] at h
    · rw [if_neg a2] at h
      by_cases a3 : pk = 3
      · rw [if_pos a3] at h
        by_cases b1 : qk = 1
        · rw [if_pos b1] at h; simp [wBox, wRule] at h
        · rw [if_neg b1] at h
          by_cases b2 : qk = 2
          · rw [if_pos b2] at h; simp [wFloat, wRule] at h
          · rw [if_neg b2] at h
            by_cases b3 : qk = 3
            · rw [if_pos b3] at h
              simp only [Ln.mk.injEq, List.cons.injEq, and_true, true_and] at h
              simp only [Put.mk.injEq]; omega
            · rw [if_neg b3] at h
              by_cases b4 : qk = 4
              · rw [if_pos b4] at h; simp [wRule, wLine] at h
              · rw [if_neg b4] at h; simp [wRule, wThing] at h
      · rw [if_neg a3] at h
        by_cases a4 : pk = 4
        · rw [if_pos a4] at h
          by_cases b1 : qk = 1
          · rw [if_pos b1] at h; simp [wBox, wLine] at h
          · rw [if_neg b1] at h
            by_cases b2 : qk = 2
            · rw [if_pos b2] at h; simp [wFloat, wLine] at h
            · rw [if_neg b2] at h
              by_cases b3 : qk = 3
              · rw [if_pos b3] at h; simp [wRule, wLine] at h
              · rw [if_neg b3] at h
                by_cases b4 : qk = 4
                · rw [if_pos b4] at h
                  simp only [Ln.mk.injEq, List.cons.injEq, and_true, true_and] at h
                  simp only [Put.mk.injEq]; omega
                · rw [if_neg b4] at h; simp [wLine, wThing] at h
        · rw [if_neg a4] at h
          by_cases b1 : qk = 1
          · rw [if_pos b1] at h; simp [wBox, wThing] at h
          · rw [if_neg b1] at h
            by_cases b2 : qk = 2
            · rw [if_pos b2] at h; simp [wFloat, wThing] at h
            · rw [if_neg b2] at h
              by_cases b3 : qk = 3
              · rw [if_pos b3] at h; simp [wRule, wThing] at h
              · rw [if_neg b3] at h
                by_cases b4 : qk = 4
                · rw [if_pos b4] at h; simp [wLine, wThing] at h
                · rw [if_neg b4] at h
                  simp only [Ln.mk.injEq, List.cons.injEq, and_true, true_and] at h
                  simp only [Put.mk.injEq]; omega
theorem eqL_of_map {α β : Type} {f : α → α → Bool} {g : α → β} : ∀ {a b : List α}, (∀ x y, x ∈ a → y ∈ b → g x = g y → f x y = true) → a.map g = b.map g → eqL f a b = true
  | [], [], _, _ => rfl
  | [], _ :: _, _, h => by simp at h
  | _ :: _, [], _, h => by simp at h
  | x :: a, y :: b, hf, h => by
    rw [List.map_cons, List.map_cons] at h
    obtain ⟨h1, h2⟩ := List.cons.inj h
    unfold eqL
    rw [hf x y List.mem_cons_self List.mem_cons_self h1, Bool.true_and]
    exact eqL_of_map (fun u v hu hv => hf u v (List.mem_cons_of_mem _ hu) (List.mem_cons_of_mem _ hv)) h2
theorem flat_of_eqL {α β : Type} {f : α → α → Bool} {g : α → List β} (hg : ∀ x y, f x y = true → g x = g y) : ∀ {a b : List α}, eqL f a b = true → a.flatMap g = b.flatMap g
  | [], [], _ => rfl
  | [], _ :: _, h => by unfold eqL at h; cases h
  | _ :: _, [], h => by unfold eqL at h; cases h
  | x :: a, y :: b, h => by
    unfold eqL at h
    rw [Bool.and_eq_true] at h
    rw [List.flatMap_cons, List.flatMap_cons, hg x y h.1, flat_of_eqL hg h.2]
def okAll (l : List Page) : Prop := ∀ p, p ∈ l → ∀ x, x ∈ p.s.l → ∀ z, z ∈ x.s.l → badP z = false
theorem okAll_of {l : List Page} (h : ∀ z, z ∈ l.flatMap (fun p => p.s.l.flatMap fun x => x.s.l) → badP z = false) : okAll l := fun p hp x hx z hz =>
  h z (List.mem_flatMap.2 ⟨p, hp, List.mem_flatMap.2 ⟨x, hx, hz⟩⟩)
theorem apart {a b : List Page} (ha : okAll a) (hb : okAll b) : (pagesN a a.length = pagesN b b.length) ↔ eqL eqPage a b = true := by
  constructor
  · intro h
    rw [pagesN_eq, pagesN_eq] at h
    have h1 := pages_inj (lines_inj (lines_clean a 0) (lines_clean b 0) h)
    refine eqL_of_map (fun p q hp hq hpq => ?_) h1
    unfold pageD at hpq
    simp only [Prod.mk.injEq] at hpq
    obtain ⟨e1, e2, e3, e4⟩ := hpq
    unfold eqPage
    rw [e1, e2, e3]
    simp only [beq_self_eq_true, Bool.true_and]
    refine eqL_of_map (fun x y hx hy hxy => ?_) e4
    unfold laneD at hxy
    simp only [Prod.mk.injEq] at hxy
    obtain ⟨e5, e6⟩ := hxy
    unfold eqLane
    rw [e5]
    simp only [beq_self_eq_true, Bool.true_and]
    exact eqL_of_map (fun u v hu hv huv => eqPut_iff.2 (putLn_inj (ha p hp x hx u hu) (hb q hq y hy v hv) huv)) e6
  · intro h
    rw [pagesN_eq, pagesN_eq, linesF_t, linesF_t]
    have key : ∀ (a b : List Page) (i : Nat), eqL eqPage a b = true → pagesF i a = pagesF i b := by
      intro a
      induction a with
      | nil =>
        intro b i h
        cases b with
        | nil => rfl
        | cons q b => unfold eqL at h; cases h
      | cons p a ih =>
        intro b i h
        cases b with
        | nil => unfold eqL at h; cases h
        | cons q b =>
          unfold eqL at h
          rw [Bool.and_eq_true] at h
          unfold pagesF
          rw [ih b (i + 1) h.2]
          congr 1
          have h1 := h.1
          unfold eqPage at h1
          simp only [Bool.and_eq_true, beq_iff_eq] at h1
          obtain ⟨e1, e2, e3, e4⟩ := h1
          unfold pageL pageH
          rw [e1, e2, e3]
          congr 1
          refine flat_of_eqL (fun x y hxy => ?_) e4
          unfold eqLane at hxy
          simp only [Bool.and_eq_true, beq_iff_eq] at hxy
          unfold laneL laneH
          rw [hxy.1]
          congr 1
          exact flat_of_eqL (fun u v huv => by rw [eqPut_iff.1 huv]) hxy.2
    exact key a b 0 h
end Go.Proofs.YtfiejiokconobaaDoor
