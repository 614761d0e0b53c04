/- A word and numbers as a text: the program's line. -/
import Derived.Test.YtkglkbkikgncoaaDoorEnv

namespace Go.Proofs.YtkglkbkikgncoaaDoor

open Go.RowKit

/-- A number's cells. -/
def enc1 (x : Int) : List Value := [.int .i64 x]
def numL (n : Int) : List UInt8 := 32 :: Lib.itoa n
def lineL (wd : List UInt8) (ns : List Int) : List UInt8 := wd ++ ns.flatMap numL
theorem flat_snoc {α β : Type} {f : α → List β} {l : List α} {k : Nat} {x : α} (h : l[k]? = some x) : (l.take (k + 1)).flatMap f = (l.take k).flatMap f ++ f x := by
  rw [List.take_add_one, h, List.flatMap_append]; simp
theorem numL_short {n : Int} (h : I64 n) : (numL n).length ≤ 22 := by unfold numL; have := itoa_short h; simp; omega
theorem flat_short {l : List Int} (h : ∀ x, x ∈ l → I64 x) : (l.flatMap numL).length ≤ 22 * l.length := by
  induction l with
  | nil => simp
  | cons x l ih =>
    have h1 := numL_short (h x List.mem_cons_self)
    have h2 := ih fun y hy => h y (List.mem_cons_of_mem _ hy)
    rw [List.flatMap_cons, List.length_append, List.length_cons]
    omega
theorem lineL_short {wd : List UInt8} {ns : List Int} (h : ∀ x, x ∈ ns → I64 x) : (lineL wd ns).length ≤ wd.length + 22 * ns.length := by
  unfold lineL
  rw [List.length_append]
  have := flat_short h
  omega

set_option maxRecDepth 100000 in
set_option maxHeartbeats 2000000 in
theorem line_any (a : Option Addr) (cap : Nat) (wd : List UInt8) (ns : List Int) (w : World) (he : Env w) (hl : SlOk w 1 enc1 a ns.length cap ns) (hi : ∀ x, x ∈ ns → I64 x) (hw : wd.length ≤ 1000) (hn : ns.length ≤ 1000) :
    Calls Tryd.prog 31 #[sv wd, .slice a ns.length cap] w fun e w' => e = .returned (sv (lineL wd ns)) ∧ Kp w w' := by
  have HE := Lib.hid he
  have HL := Lib.hid hl
  have HI := Lib.hid hi
  have hcl := hl.2.1
  have hcm := hl.2.2.1
  unfold maxLen at hcm
  clear he hl hi
  go_enter Tryd.func31, Tryd.ntmps31
  go_wp2_with fail
  refine (putString w.heap.size w.heap.size [] wd _ (Bld.new w) (by simp; omega)).mono ?_
  rintro e w1 ⟨⟨v, rfl⟩, h1, b1⟩
  rw [List.nil_append] at h1
  have k1 : Kp w w1 := Below.trans (Below.alloc (Below.refl _ w) (Nat.le_refl _) _) b1.1
  clear b1
  go_wp2_with fail
  go_loopw [12] (fun v12 wr => ∃ (k : Nat), k ≤ ns.length ∧ v12 = .int .i64 k ∧ Bld w.heap.size w.heap.size (wd ++ (ns.take k).flatMap numL) wr ∧ Kp w wr) (fun v12 _ => ns.length - (intOf v12).toNat)
  case atStart => exact ⟨0, Nat.zero_le _, rfl, by simpa using h1, k1⟩
  case round =>
    clear h1 k1
    obtain ⟨k, hk, rfl, xb, xk⟩ := hrel
    have hfl : ((ns.take k).flatMap numL).length ≤ 22 * 1000 := Nat.le_trans (flat_short fun x hx => HI.out x (List.mem_of_mem_take hx)) (by rw [List.length_take]; omega)
    obtain ⟨t, ht⟩ : ∃ t, (ns.take k).flatMap numL = t := ⟨_, rfl⟩
    rw [ht] at xb hfl
    by_cases hlt : k < ns.length
    · obtain ⟨x, hx⟩ : ∃ x, ns[k]? = some x := ⟨ns[k]'hlt, List.getElem?_eq_getElem _⟩
      have hxi := HI.out x (List.mem_of_getElem? hx)
      have hxs := itoa_short hxi
      have hs := flat_snoc (f := numL) hx
      rw [ht] at hs
      have HS := Lib.hid hs
      have tl := HL.out.kp xk
      rcases tl.2.2.2 with e | ⟨ga, oa, rfl, hga, r1⟩
      · rw [e] at hlt; simp at hlt
      have d0 := r1 k _ hx 0 _ rfl
      simp only [Nat.add_zero, Nat.mul_one] at d0
      have j1 : decide ((k : Int) < (ns.length : Int)) = true := decide_eq_true (by omega)
      have XB := Lib.hid xb
      have XI := Lib.hid hxi
      clear tl r1 hx hs ht xb hxi HL
      go_wp2_with fail
      refine (putByte w.heap.size w.heap.size _ 32 32 rfl _ XB.out (by simp; omega)).mono ?_
      rintro e w2 ⟨⟨v, rfl⟩, h2, b2⟩
      have k2 : Kp w w2 := Below.trans xk b2.1
      clear b2
      go_wp2_with fail
      refine (formatInt x XI.out _ (HE.out.kp k2)).mono ?_
      rintro e w3 ⟨rfl, k3⟩
      have h3 := h2.kp k3
      have k3' := k2.trans k3
      clear h2 k2 k3
      go_wp2_with fail
      refine (putString w.heap.size w.heap.size _ _ _ h3 (by simp; omega)).mono ?_
      rintro e w4 ⟨⟨v, rfl⟩, h4, b4⟩
      have k4 : Kp w w4 := Below.trans k3' b4.1
      clear b4 h3 k3'
      go_wp2_with fail
      go_roundw
      case rel => exact ⟨k + 1, by omega, by go_num, by rw [HS.out]; simpa [numL] using h4, k4⟩
      case measure => simp [intOf]; omega
    · obtain rfl : k = ns.length := by omega
      have j1 : decide ((ns.length : Int) < (ns.length : Int)) = false := decide_eq_false (by omega)
      rw [List.take_length] at ht
      go_wp2_with fail
      refine (getString _ _ _ _ xb).mono ?_
      rintro e w2 ⟨rfl, b2⟩
      have k2 : Kp w w2 := Below.trans xk b2
      clear b2
      go_wp2_with fail
      go_ret
      exact ⟨by unfold lineL; rw [ht]; rfl, k2⟩
end Go.Proofs.YtkglkbkikgncoaaDoor
