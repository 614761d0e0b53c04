/- A galley: the texts that are always read. -/
import Derived.Test.YtkglkbkikgncoaaDoorG16

namespace Go.Proofs.YtkglkbkikgncoaaDoor

open Go.ChangeShapes Go.WideShapes Go.ChangeAt Go.RowKit Go.Shelf

theorem row_away {α : Type} {w : World} {base n : Nat} {e : TypeId} {enc : α → List Value} {v : Value} {l : List α} (h : Row w base e n enc v l) {B : Nat} {cs : List Value} {t : TypeId} (hB : Blk w B cs t) (ht : e ≠ t) (o : Nat) (u : Value) : Row (w.setCell ⟨B, o, none⟩ u) base e n enc v l :=
  h.stay fun g hg => Below.heap_setCell _ _ _ _ (fun e2 => by
    obtain ⟨cur, hc⟩ := h.type hg
    have e3 : g = B := e2
    rw [e3, hB.heap] at hc
    cases hc; exact ht rfl)
theorem blk_away {w : World} {b B : Nat} {cs ds : List Value} {t t' : TypeId} (h : Blk w b cs t) (hB : Blk w B ds t') (ht : t ≠ t') (o : Nat) (u : Value) : Blk (w.setCell ⟨B, o, none⟩ u) b cs t :=
  h.other (a := ⟨B, o, none⟩) (fun e => by
    have e' : b = B := e
    have h1 := h.heap
    rw [e', hB.heap] at h1
    cases h1; exact ht rfl) u
theorem own_ne {α : Type} {w : World} {base n : Nat} {e : TypeId} {enc : α → List Value} {v : Value} {l : List α} (h : Row w base e n enc v l) {B : Nat} {cs : List Value} {t : TypeId} (hB : Blk w B cs t) (ht : e ≠ t) : v.ownBlock ≠ some B := fun hg => by
  obtain ⟨cur, hc⟩ := h.type hg
  rw [hB.heap] at hc
  cases hc; exact ht rfl
theorem Blk.twain {w w' : World} {b : Nat} {cs : List Value} {t : TypeId} {r1 r2 : Option Nat} (h : Blk w b cs t) (k : Twain w w' r1 r2) (h1 : r1 ≠ some b) (h2 : r2 ≠ some b) : Blk w' b cs t := ⟨(k.block b h.lt h1 h2).trans h.heap⟩
theorem Blk.grown1 {w w' : World} {b : Nat} {cs : List Value} {t : TypeId} {r : Option Nat} (h : Blk w b cs t) (k : w.grownBy w' r) (h1 : r ≠ some b) : Blk w' b cs t := ⟨(k.block b h.lt (fun e => h1 e.symm)).trans h.heap⟩
theorem Kp.twain {W w w' : World} {r1 r2 : Option Nat} (h : Kp W w) (k : Twain w w' r1 r2) (h1 : ∀ b, r1 = some b → W.heap.size ≤ b) (h2 : ∀ b, r2 = some b → W.heap.size ≤ b) : Kp W w' :=
  ⟨k.os.trans h.os, k.tape.trans h.tape, k.output.trans h.output, Nat.le_trans h.size k.size, fun i hi => (k.block i (Nat.lt_of_lt_of_le hi h.size) (fun e => by have := h1 i e; omega) (fun e => by have := h2 i e; omega)).trans (h.block i hi)⟩
theorem Kp.grown1 {W w w' : World} {r : Option Nat} (h : Kp W w) (k : w.grownBy w' r) (h1 : ∀ b, r = some b → W.heap.size ≤ b) : Kp W w' :=
  ⟨k.os.trans h.os, k.tape.trans h.tape, k.output.trans h.output, Nat.le_trans h.size k.size, fun i hi => (k.block i (Nat.lt_of_lt_of_le hi h.size) (fun e => by have := h1 i e.symm; omega)).trans (h.block i hi)⟩
/-- What is read so far of the text that is always read: one page, one lane, one thing. -/
def pg (la : Option Addr) (n lc : Nat) (ll : List Lane) : Page := ⟨⟨la, n, lc, ll⟩, -1, 5, 5⟩
def ln (a : Option Addr) (n c : Nat) (l : List Put) : Lane := ⟨3, ⟨a, n, c, l⟩⟩
def AwS (base k : Nat) (v : Value) (w : World) : Prop := match k with
  | 0 => v = .slice none 0 0
  | 1 => ∃ g c, v = .slice (some ⟨g, 0, none⟩) 1 c ∧ Row w base 49 4 Page.cells v [pg none 0 0 []]
  | 2 => ∃ g c h lc, v = .slice (some ⟨g, 0, none⟩) 1 c ∧ Row w base 49 4 Page.cells v [pg (some ⟨h, 0, none⟩) 1 lc [ln none 0 0 []]] ∧ Row w base 46 2 Lane.cells (.slice (some ⟨h, 0, none⟩) 1 lc) [ln none 0 0 []]
  | 3 => ∃ g c h lc j pc, v = .slice (some ⟨g, 0, none⟩) 1 c ∧ Row w base 49 4 Page.cells v [pg (some ⟨h, 0, none⟩) 1 lc []] ∧ Row w base 46 2 Lane.cells (.slice (some ⟨h, 0, none⟩) 1 lc) [ln (some ⟨j, 0, none⟩) 1 pc []] ∧ Row w base 33 5 Put.cells (.slice (some ⟨j, 0, none⟩) 1 pc) [⟨1, 2, 0, 0, 3⟩]
  | _ => False
def AwT (base k O : Nat) (v : Value) (w : World) : Prop := Blk w O [v] 23 ∧ base ≤ w.heap.size ∧ base ≤ O ∧ AwS base k v w
theorem AwS.move {base k : Nat} {v : Value} {w w' : World} (h : AwS base k v w) (hr : ∀ {α : Type} {n : Nat} {e : TypeId} {enc : α → List Value} {u : Value} {l : List α}, (e = 49 ∨ e = 46 ∨ e = 33) → Row w base e n enc u l → Row w' base e n enc u l) : AwS base k v w' := by
  unfold AwS at h ⊢
  rcases k with _ | _ | _ | _ | k
  · exact h
  · obtain ⟨g, c, e, q1⟩ := h
    exact ⟨g, c, e, hr (.inl rfl) q1⟩
  · obtain ⟨g, c, h, lc, e, q1, q2⟩ := h
    exact ⟨g, c, h, lc, e, hr (.inl rfl) q1, hr (.inr (.inl rfl)) q2⟩
  · obtain ⟨g, c, h, lc, j, pc, e, q1, q2, q3⟩ := h
    exact ⟨g, c, h, lc, j, pc, e, hr (.inl rfl) q1, hr (.inr (.inl rfl)) q2, hr (.inr (.inr rfl)) q3⟩
  · exact h
theorem AwT.kp {base k O : Nat} {v : Value} {w w' : World} (k1 : Kp w w') (h : AwT base k O v w) : AwT base k O v w' :=
  ⟨h.1.kp k1, Nat.le_trans h.2.1 k1.size, h.2.2.1, h.2.2.2.move fun _ r => r.kp k1⟩
theorem AwT.bool {base k O : Nat} {v : Value} {w : World} {B : Nat} {b : Bool} {u : Value} (hB : Blk w B [.bool b] 4) (h : AwT base k O v w) : AwT base k O v (w.setCell ⟨B, 0, none⟩ u) :=
  ⟨blk_away h.1 hB (by decide) 0 u, by have := h.2.1; simpa using this, h.2.2.1, h.2.2.2.move fun he r => row_away r hB (by rcases he with rfl | rfl | rfl <;> decide) 0 u⟩
theorem AwT.sl {base k O : Nat} {v : Value} {w : World} (h : AwT base k O v w) : ∃ a n c, v = .slice a n c := by
  obtain ⟨_, _, _, h⟩ := h
  unfold AwS at h
  rcases k with _ | _ | _ | _ | k
  · exact ⟨_, _, _, h⟩
  · obtain ⟨g, c, e, q1⟩ := h; exact ⟨_, _, _, e⟩
  · obtain ⟨g, c, _, _, e, _⟩ := h; exact ⟨_, _, _, e⟩
  · obtain ⟨g, c, _, _, _, _, e, _⟩ := h; exact ⟨_, _, _, e⟩
  · exact absurd h id
/-- The state behind a line. -/
theorem AwT.next {base k O : Nat} {v v' : Value} {w : World} (hO : Blk w O [v] 23) (hb : base ≤ w.heap.size) (hbO : base ≤ O) (h : AwS base k v' w) : AwT base k O v' (w.setCell ⟨O, 0, none⟩ v') :=
  ⟨hO.set 0 v', by simpa using hb, hbO, h.move fun he r => row_away r hO (by rcases he with rfl | rfl | rfl <;> decide) 0 v'⟩
end Go.Proofs.YtkglkbkikgncoaaDoor
