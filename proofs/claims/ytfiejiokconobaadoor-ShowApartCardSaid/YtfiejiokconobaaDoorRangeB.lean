/- A range over a function whose variable lies in a block of its own, made anew in each round. -/
import Derived.Test.YtfiejiokconobaaDoorRange

namespace Go.Proofs.YtfiejiokconobaaDoor

open Go.RowKit

theorem wp_rangeB {α : Type} {P : Program} {g : Operand} {ps : Array Tmp} {assign body : Code} {Q : Exit → Act → World → Prop} {a : Act} {w : World} {gf : Nat} {lb : Array Value} (cells : α → List Value) (T : TypeId)
    (hg : a.eval g = .func (.func gf) #[] lb) (eg : ∀ args w, (callFunc gf args).run P w = .ok (.enter gf args) w)
    {encs : α → Array Value} {K : Nat → Prop} {S Sp : List α → Prop} {N : Nat} {w0 : World} (hseq : SeqStopsK Fence.wide 99 P gf lb encs (CK K) S Sp N w0) (hb0 : Below w0.heap.size w0 w) (hps : ∀ x, (encs x).size = ps.size)
    (I : List α → World → Prop) (Ix : Code → List α → World → Prop) (hI : OwnFrom w.heap.size I) (hIx : ∀ c, OwnFrom w.heap.size (Ix c)) (h0 : I [] w)
    (h : ∃ f : α → Nat → Act, (∀ (l : Nat) (pre : List α) (x : α) (W : World) (K' : Act → World → Prop), I pre W → (∀ b W', KeepsOthers W W' → CK K W W' → I pre W' → w.heap.size ≤ b → Blk W' b (cells x) T → K' (f x b) W') →
        assign.wpIn (Fence.wide.inRound l) 98 P (Exit.then K' (fun _ _ _ => False)) { tmps := (ps.zip (encs x)).foldl (fun t (p, v) => t.setIfInBounds p v) a.tmps, defers := [] } W) ∧
      ∀ (l : Nat) (pre : List α) (x : α) (b : Nat) (W : World), I pre W → w.heap.size ≤ b → Blk W b (cells x) T → pre.length < N → body.wpIn (Fence.wide.inRound l) 98 P (ownPostK (CK K) I Ix (pre ++ [x]) W) (f x b) W)
    (hdone : ∀ (D : Nat) (xs : List α) (W : World), w.heap.size ≤ D → S xs → I xs W → W.heap[D]? = some (.deferred (some [])) → Q .normal { a with defers := { target := .collected D, args := #[] } :: a.defers } W)
    (hstop : ∀ (D : Nat) (c : Code) (pre : List α) (W : World), w.heap.size ≤ D → Sp pre → Ix c pre W → W.heap[D]? = some (.deferred (some [])) → c.wp P Q { a with defers := { target := .collected D, args := #[] } :: a.defers } W) :
    (Code.rangeFunc g ps assign body).wp P Q a w := by
  obtain ⟨f, h1, h2⟩ := h
  refine wpIn_wide.1 (wpIn_rangeFunc_ownH (F := Fence.wide) (n := 100) rfl (by decide) hg trivial eg hseq (fun h k => h.trans k) CK.book hb0 hps I Ix hI hIx h0 (fun x a' W => ∃ b, a' = f x b ∧ w.heap.size ≤ b ∧ Blk W b (cells x) T) ?_ ?_ ?_ hdone (fun D c pre W h1 h2 h3 h4 => wpIn_wide.2 (hstop D c pre W h1 h2 h3 h4)))
  · rintro x a' _ A B row ⟨b, he, hb, hB⟩ hg hr
    exact ⟨b, he, hb, hB.grown hg (fun r e => (hr r e).2)⟩
  · intro l pre x W K' hi hk
    exact h1 l pre x W K' hi (fun b W' k1 k2 k3 k4 k5 => hk _ W' (k1.from _) k2 k3 ⟨b, rfl, k4, k5⟩)
  · rintro l pre x a' W _ _ hi ⟨b, rfl, hb, hB⟩ hlt
    exact wpIn_mono (h2 l pre x b W hi hb hB hlt) ownPostG_of_ownPostK
end Go.Proofs.YtfiejiokconobaaDoor
