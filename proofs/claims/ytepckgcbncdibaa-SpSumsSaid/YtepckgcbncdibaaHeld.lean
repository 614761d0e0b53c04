/- Regions that draw their order: what was there is held through the region. -/
import Derived.Test.YtepckgcbncdibaaBlk2
import Derived.Deep.RegionHeld3
import Derived.Deep.QuietTactic
import Derived.BigQuiet
import Derived.Deep.DeepCutAuto
namespace Go.Proofs.Ytepckgcbncdibaa
open Go.RowKit

theorem named_world {P : Program} {c : Code} {Q : Exit → Act → World → Prop} {a : Act} {W : World} {F : World → Prop} (hF : F W) (h : ∀ w, F w → Code.wp P c Q a w) : Code.wp P c Q a W := h W hF
theorem held_start (W : World) : (∀ b o, b < W.heap.size → W.drew.cell? ⟨b, o, none⟩ = W.cell? ⟨b, o, none⟩) ∧ Kp W W.drew := ⟨fun _ _ _ => rfl, (Kp.refl W).drew⟩
theorem held_kp {W a : World} (k : Kp W a) : (∀ b o, b < W.heap.size → a.cell? ⟨b, o, none⟩ = W.cell? ⟨b, o, none⟩) ∧ Kp W a :=
  ⟨fun b o hb => k.cell (p := ⟨b, o, none⟩) hb, k⟩
theorem held_next {W a c : World} (h : (∀ b o, b < W.heap.size → a.cell? ⟨b, o, none⟩ = W.cell? ⟨b, o, none⟩) ∧ Kp W a) (k : Kp a c) : (∀ b o, b < W.heap.size → c.cell? ⟨b, o, none⟩ = W.cell? ⟨b, o, none⟩) ∧ Kp W c :=
  ⟨fun b o hb => (k.cell (p := ⟨b, o, none⟩) (Nat.lt_of_lt_of_le hb h.2.size)).trans (h.1 b o hb), h.2.trans k⟩
theorem held_alloc {W a : World} (h : (∀ b o, b < W.heap.size → a.cell? ⟨b, o, none⟩ = W.cell? ⟨b, o, none⟩) ∧ Kp W a) (x : Obj) : (∀ b o, b < W.heap.size → (a.alloc x).cell? ⟨b, o, none⟩ = W.cell? ⟨b, o, none⟩) ∧ Kp W (a.alloc x) :=
  held_next h ((Kp.refl a).alloc x)
theorem held_drew {W a : World} (h : (∀ b o, b < W.heap.size → a.cell? ⟨b, o, none⟩ = W.cell? ⟨b, o, none⟩) ∧ Kp W a) : (∀ b o, b < W.heap.size → a.drew.cell? ⟨b, o, none⟩ = W.cell? ⟨b, o, none⟩) ∧ Kp W a.drew :=
  held_next h (Kp.refl a).drew
theorem held_store {W a : World} (h : (∀ b o, b < W.heap.size → a.cell? ⟨b, o, none⟩ = W.cell? ⟨b, o, none⟩) ∧ Kp W a) {p : Addr} (hp : W.heap.size ≤ p.block) (v : Value) : (∀ b o, b < W.heap.size → (a.setCell p v).cell? ⟨b, o, none⟩ = W.cell? ⟨b, o, none⟩) ∧ Kp W (a.setCell p v) :=
  ⟨fun b o hb => (Kp.cell (h.2.setCell hp v) (p := ⟨b, o, none⟩) hb), h.2.setCell hp v⟩
end Go.Proofs.Ytepckgcbncdibaa
