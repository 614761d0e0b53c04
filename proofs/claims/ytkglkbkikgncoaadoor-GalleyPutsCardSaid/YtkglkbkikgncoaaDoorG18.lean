/- A galley: the texts that are always read, line by line. -/
import Derived.Test.YtkglkbkikgncoaaDoorG17

namespace Go.Proofs.YtkglkbkikgncoaaDoor

open Go.ChangeShapes Go.WideShapes Go.ChangeAt Go.RowKit Go.Shelf

theorem digG {u : Nat} (h : u < 10) : Lib.itoa (u : Int) = [UInt8.ofNat (48 + u)] := by
  unfold Lib.itoa
  rw [if_neg (by omega), Int.toNat_natCast, Lib.decDigits, dif_pos h]
theorem digGm1 : Lib.itoa (-1) = [45, 49] := by
  unfold Lib.itoa
  rw [if_pos (by decide)]
  show 45 :: Lib.decDigits 1 = _
  rw [Lib.decDigits, dif_pos (by decide)]; rfl
theorem ig0 : Lib.itoa 0 = [48] := digG (u := 0) (by decide)
theorem ig1 : Lib.itoa 1 = [49] := digG (u := 1) (by decide)
theorem ig2 : Lib.itoa 2 = [50] := digG (u := 2) (by decide)
theorem ig3 : Lib.itoa 3 = [51] := digG (u := 3) (by decide)
theorem ig4 : Lib.itoa 4 = [52] := digG (u := 4) (by decide)
theorem ig5 : Lib.itoa 5 = [53] := digG (u := 5) (by decide)
abbrev aw1 : List UInt8 := [112, 97, 103, 101, 32, 48, 32, 45, 49, 32, 53, 32, 53]
abbrev aw2 : List UInt8 := [108, 97, 110, 101, 32, 51]
abbrev aw3 : List UInt8 := [98, 111, 120, 32, 50, 32, 48, 32, 51]
theorem awP1 : parseP aw1 = some (wPage, [0, -1, 5, 5]) := by
  have e : aw1 = lineL wPage [0, -1, 5, 5] := by simp [lineL, numL, ig0, ig5, digGm1]
  rw [e]; exact parseP_line (by decide) (by unfold I64; decide)
theorem awP2 : parseP aw2 = some (wLane, [3]) := by
  have e : aw2 = lineL wLane [3] := by simp [lineL, numL, ig3]
  rw [e]; exact parseP_line (by decide) (by unfold I64; decide)
theorem awP3 : parseP aw3 = some (wBox, [2, 0, 3]) := by
  have e : aw3 = lineL wBox [2, 0, 3] := by simp [lineL, numL, ig0, ig2, ig3]
  rw [e]; exact parseP_line (by decide) (by unfold I64; decide)
/-- What a step leaves besides the pages. -/
def Keeps (W w1 w2 : World) : Prop := Kp W w2 ∧ ∀ B b, Blk w1 B [.bool b] 4 → Blk w2 B [.bool b] 4
def StepOk (W : World) (k O : Nat) (w1 : World) (e : Ending) (w2 : World) : Prop :=
  e = .returned (.tuple #[]) ∧ (∃ v2, AwT W.heap.size (k + 1) O v2 w2) ∧ Kp W w2 ∧ ∀ B b, Blk w1 B [.bool b] 4 → Blk w2 B [.bool b] 4
theorem step_of (W : World) (k O S : Nat) (v : Value) (line : List UInt8) (w1 : World) (hA : AwT W.heap.size k O v w1) (hS : Blk w1 S [sv line] 9)
    (hT : Calls Tryd.prog 21 #[v, sv line] w1 fun e w2 => ∃ v', e = .returned v' ∧ AwS W.heap.size (k + 1) v' w2 ∧ Keeps W w1 w2 ∧ Blk w2 O [v] 23) :
    Calls Tryd.prog 20 #[.pointer (some ⟨O, 0, none⟩), .pointer (some ⟨S, 0, none⟩)] w1 (StepOk W k O w1) := by
  obtain ⟨va, vn, vc, rfl⟩ := hA.sl
  have hbO := hA.2.2.1
  refine (closure_ok va vn vc line O S w1 (fun v' w2 => AwS W.heap.size (k + 1) v' w2 ∧ Keeps W w1 w2) hA.1 hS (hT.mono fun e w2 h => ?_)).mono ?_
  · obtain ⟨v', rfl, h1, h2, h3⟩ := h
    have hA' : AwT W.heap.size (k + 1) O v' (w2.setCell ⟨O, 0, none⟩ v') := AwT.next h3 h2.1.size hbO h1
    obtain ⟨a, n, c, rfl⟩ := hA'.sl
    exact ⟨a, n, c, rfl, h3, h1, h2⟩
  · rintro e w' ⟨rfl, a, n, c, w2, ⟨h1, h2⟩, h3, rfl⟩
    exact ⟨rfl, ⟨_, AwT.next h3 h2.1.size hbO h1⟩, Kp.setCell h2.1 hbO _, fun B b hB => blk_away (h2.2 B b hB) h3 (by decide) 0 _⟩
theorem one_shape {α : Type} {w : World} {base n : Nat} {e : TypeId} {enc : α → List Value} {v : Value} {l : List α} (h : Row w base e n enc v l) (hl : l.length = 1) : ∃ g c, v = .slice (some ⟨g, 0, none⟩) 1 c ∧ base ≤ g := by
  obtain ⟨g, c, e, h1, _⟩ := h.shape (by omega)
  rw [hl] at e
  exact ⟨g, c, e, h1⟩
theorem step0 (W : World) (O S : Nat) (v : Value) (w1 : World) (he : Env W) (k1 : Kp W w1) (hA : AwT W.heap.size 0 O v w1) (hS : Blk w1 S [sv aw1] 9) :
    Calls Tryd.prog 20 #[.pointer (some ⟨O, 0, none⟩), .pointer (some ⟨S, 0, none⟩)] w1 (StepOk W 0 O w1) := by
  refine step_of W 0 O S v aw1 w1 hA hS ?_
  have hv : v = .slice none 0 0 := hA.2.2.2
  subst hv
  refine (take_page aw1 (-1) 5 5 W.heap.size [] (.slice none 0 0) awP1 (by decide) (by decide) w1 (he.kp k1) (Row.nil _ _ _ _ _) hA.2.1).mono ?_
  rintro e w2 ⟨v', rfl, hr, hg, _⟩
  obtain ⟨g, c, rfl, _⟩ := one_shape hr rfl
  exact ⟨_, rfl, ⟨g, c, rfl, hr⟩, ⟨k1.grown1 hg (fun b h => by cases h), fun B b hB => hB.grown1 hg (fun h => by cases h)⟩, hA.1.grown1 hg (fun h => by cases h)⟩
theorem step1 (W : World) (O S : Nat) (v : Value) (w1 : World) (he : Env W) (k1 : Kp W w1) (hA : AwT W.heap.size 1 O v w1) (hS : Blk w1 S [sv aw2] 9) :
    Calls Tryd.prog 20 #[.pointer (some ⟨O, 0, none⟩), .pointer (some ⟨S, 0, none⟩)] w1 (StepOk W 1 O w1) := by
  refine step_of W 1 O S v aw2 w1 hA hS ?_
  obtain ⟨g, c, rfl, hr⟩ : ∃ g c, v = .slice (some ⟨g, 0, none⟩) 1 c ∧ Row w1 W.heap.size 49 4 Page.cells v [pg none 0 0 []] := hA.2.2.2
  refine (take_lane aw2 3 W.heap.size [] 0 g c none 0 [] (-1) 5 5 awP2 (by decide) rfl (by decide) (by decide) w1 (he.kp k1) hr (Row.nil _ _ _ _ _) hA.2.1).mono ?_
  rintro e w2 ⟨a', c', rfl, hr2, hl2, ht, _⟩
  obtain ⟨h, lc, e2, _⟩ := one_shape hl2 rfl
  simp only [Value.slice.injEq] at e2
  obtain ⟨rfl, _, rfl⟩ := e2
  exact ⟨_, rfl, ⟨g, c, h, c', rfl, hr2, hl2⟩, ⟨k1.twain ht (fun b h => by cases h) (fun b h => by cases h; exact (hr.lt g rfl).1), fun B b hB => hB.twain ht (fun h => by cases h) (own_ne hr hB (by decide))⟩, hA.1.twain ht (fun h => by cases h) (own_ne hr hA.1 (by decide))⟩
theorem step2 (W : World) (O S : Nat) (v : Value) (w1 : World) (he : Env W) (k1 : Kp W w1) (hA : AwT W.heap.size 2 O v w1) (hS : Blk w1 S [sv aw3] 9) :
    Calls Tryd.prog 20 #[.pointer (some ⟨O, 0, none⟩), .pointer (some ⟨S, 0, none⟩)] w1 (StepOk W 2 O w1) := by
  refine step_of W 2 O S v aw3 w1 hA hS ?_
  obtain ⟨g, c, h, lc, rfl, hr, hl⟩ : ∃ g c h lc, v = .slice (some ⟨g, 0, none⟩) 1 c ∧ Row w1 W.heap.size 49 4 Page.cells v [pg (some ⟨h, 0, none⟩) 1 lc [ln none 0 0 []]] ∧ Row w1 W.heap.size 46 2 Lane.cells (.slice (some ⟨h, 0, none⟩) 1 lc) [ln none 0 0 []] := hA.2.2.2
  refine (take_put aw3 wBox [2, 0, 3] ⟨1, 2, 0, 0, 3⟩ W.heap.size [] 0 g c h lc [] 0 (-1) 5 5 3 none 0 [] awP3 rfl (by decide) (by decide) (by decide) rfl rfl (by decide) w1 (he.kp k1) hr hl (Row.nil _ _ _ _ _) hA.2.1).mono ?_
  rintro e w2 ⟨a', c', rfl, hl2, hy2, ht, _⟩
  obtain ⟨j, pc, e2, _⟩ := one_shape hy2 rfl
  simp only [Value.slice.injEq] at e2
  obtain ⟨rfl, _, rfl⟩ := e2
  have hgh : g ≠ h := fun e => by
    obtain ⟨c1, q1⟩ := hr.type (g := g) rfl
    obtain ⟨c2, q2⟩ := hl.type (g := h) rfl
    rw [e, q2] at q1
    cases q1
  have hr2 : Row w2 W.heap.size 49 4 Page.cells (.slice (some ⟨g, 0, none⟩) 1 c) [pg (some ⟨h, 0, none⟩) 1 lc []] := Row.stay (w := w1) hr (fun b hb => by cases hb; exact ht.block g (hr.lt g rfl).2 (fun e => by cases e) (fun e => by cases e; exact hgh rfl))
  exact ⟨_, rfl, ⟨g, c, h, lc, j, c', rfl, hr2, hl2, hy2⟩, ⟨k1.twain ht (fun b h => by cases h) (fun b h' => by cases h'; exact (hl.lt h rfl).1), fun B b hB => hB.twain ht (fun h => by cases h) (own_ne hl hB (by decide))⟩, hA.1.twain ht (fun h => by cases h) (own_ne hl hA.1 (by decide))⟩
theorem stepBad (W : World) (O S : Nat) (v : Value) (w1 : World) (he : Env W) (k1 : Kp W w1) (hA : AwT W.heap.size 1 O v w1) (hS : Blk w1 S [sv aw3] 9) :
    Calls Tryd.prog 20 #[.pointer (some ⟨O, 0, none⟩), .pointer (some ⟨S, 0, none⟩)] w1 fun e w2 => e = .panicked gone ∧ Kp W w2 ∧ ∀ B b, Blk w1 B [.bool b] 4 → Blk w2 B [.bool b] 4 := by
  obtain ⟨g, c, rfl, hr⟩ : ∃ g c, v = .slice (some ⟨g, 0, none⟩) 1 c ∧ Row w1 W.heap.size 49 4 Page.cells v [pg none 0 0 []] := hA.2.2.2
  refine (closure_bad _ _ _ aw3 O S w1 (fun w2 => Kp w1 w2) hA.1 hS (take_nolane aw3 wBox [2, 0, 3] W.heap.size [] 0 g c none 0 [] (-1) 5 5 awP3 (by decide) (by decide) (by decide) rfl w1 (he.kp k1) hr)).mono ?_
  rintro e w2 ⟨rfl, k2⟩
  exact ⟨rfl, k1.trans k2, fun B b hB => hB.kp k2⟩
end Go.Proofs.YtkglkbkikgncoaaDoor
