/- Regions that draw their order: what was there is held through the region. -/
import Derived.Test.YtaekeogaakogbaaGreatDoorBlk2

import Derived.Deep.RegionHeld3

import Derived.Deep.QuietTactic

import Derived.BigQuiet

import Derived.Deep.DeepCutAuto

namespace Go.Proofs.YtaekeogaakogbaaGreatDoor

open Go.RowKit

theorem named_world {P : Program} {c : Code} {Q : Exit → Act → World → Prop} {a : Act} {W : World} {F : World → Prop} (hF : F W) (h : ∀ w, F w → Code.wp P c Q a w) : Code.wp P c Q a W := h W hF
theorem held_start (W : World) : (∀ b o, b < W.heap.size → W.drew.cell? ⟨b, o, none⟩ = W.cell? ⟨b, o, none⟩) ∧ Kp W W.drew := ⟨fun _ _ _ => rfl, (Kp.refl W).drew⟩
theorem held_kp {W a : World} (k : Kp W a) : (∀ b o, b < W.heap.size → a.cell? ⟨b, o, none⟩ = W.cell? ⟨b, o, none⟩) ∧ Kp W a :=
  ⟨fun b o hb => k.cell (p := ⟨b, o, none⟩) hb, k⟩
theorem held_next {W a c : World} (h : (∀ b o, b < W.heap.size → a.cell? ⟨b, o, none⟩ = W.cell? ⟨b, o, none⟩) ∧ Kp W a) (k : Kp a c) : (∀ b o, b < W.heap.size → c.cell? ⟨b, o, none⟩ = W.cell? ⟨b, o, none⟩) ∧ Kp W c :=
  ⟨fun b o hb => (k.cell (p := ⟨b, o, none⟩) (Nat.lt_of_lt_of_le hb h.2.size)).trans (h.1 b o hb), h.2.trans k⟩
theorem held_alloc {W a : World} (h : (∀ b o, b < W.heap.size → a.cell? ⟨b, o, none⟩ = W.cell? ⟨b, o, none⟩) ∧ Kp W a) (x : Obj) : (∀ b o, b < W.heap.size → (a.alloc x).cell? ⟨b, o, none⟩ = W.cell? ⟨b, o, none⟩) ∧ Kp W (a.alloc x) :=
  held_next h ((Kp.refl a).alloc x)
theorem held_drew {W a : World} (h : (∀ b o, b < W.heap.size → a.cell? ⟨b, o, none⟩ = W.cell? ⟨b, o, none⟩) ∧ Kp W a) : (∀ b o, b < W.heap.size → a.drew.cell? ⟨b, o, none⟩ = W.cell? ⟨b, o, none⟩) ∧ Kp W a.drew :=
  held_next h (Kp.refl a).drew
theorem held_store {W a : World} (h : (∀ b o, b < W.heap.size → a.cell? ⟨b, o, none⟩ = W.cell? ⟨b, o, none⟩) ∧ Kp W a) {p : Addr} (hp : W.heap.size ≤ p.block) (v : Value) : (∀ b o, b < W.heap.size → (a.setCell p v).cell? ⟨b, o, none⟩ = W.cell? ⟨b, o, none⟩) ∧ Kp W (a.setCell p v) :=
  ⟨fun b o hb => (Kp.cell (h.2.setCell hp v) (p := ⟨b, o, none⟩) hb), h.2.setCell hp v⟩
/-- A step that is taken first: the kit's law, its three closed conditions in one. -/
theorem takeH {P : Program} {md : Region.Mode} {ops : Array Oper} {Q : Exit → Act → World → Prop} {S : World → Prop} {i : Nat} {oi : Oper} {v : Value} {fuel : Nat} {listed : Array Bool} {a : Act} {w : World} (hi : ops[i]? = some oi)
    (hs : (Region.noSelect ops && (Region.free md ops listed i && (Region.ready md ops listed).contains i)) = true)
    (hQ : ∀ c a w, Q (.panic c) (a.put oi.dst v) w → Q (.panic c) a w) (hy : YieldsIf P ops S oi v a) (hS : S w)
    (h : wpAnyH P md ops Q S fuel (listed.setIfInBounds i true) (a.put oi.dst v) w) : wpAnyH P md ops Q S (fuel + 1) listed a w := by
  rw [Bool.and_eq_true, Bool.and_eq_true] at hs
  exact wpAnyH_take hi hs.1 hs.2.1 hs.2.2 hQ hy hS h
/-! Short names, for the long step-by-step walks. -/
theorem g1 {α : Type} {i : Nat} {xs : List α} : xs.toArray[i]? = xs[i]? := by simp
theorem g2 {α : Type} {a : α} {l : List α} {i : Nat} : (a :: l)[i + 1]? = l[i]? := List.getElem?_cons_succ
theorem g3 {α : Type} {a : α} {l : List α} : (a :: l)[0]? = some a := List.getElem?_cons_zero
theorem s1 {α : Type} (l : List α) (i : Nat) (a : α) : l.toArray.setIfInBounds i a = (l.set i a).toArray := by simp
theorem s2 {α : Type} {x : α} {xs : List α} {a : α} : (x :: xs).set 0 a = a :: xs := List.set_cons_zero
theorem s3 {α : Type} {x : α} {xs : List α} {n : Nat} {a : α} : (x :: xs).set (n + 1) a = x :: xs.set n a := List.set_cons_succ
end Go.Proofs.YtaekeogaakogbaaGreatDoor
