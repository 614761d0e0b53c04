/- Marks: slices.Chunk as an iterator. -/
import Derived.Test.YtkgfnkfgmnijbaaDoorMark2

import Derived.Test.YtkgfnkfgmnijbaaDoorRange

namespace Go.Proofs.YtkgfnkfgmnijbaaDoor

open Go.RowKit Go.Shelf

attribute [local go_sem] Oper.semAt_some

/-- How many pieces of P a list of len has. -/
def nCh (len P : Nat) : Nat := (len + P - 1) / P
theorem lt_nCh {len P k : Nat} (hP : 1 ≤ P) : k < nCh len P ↔ k * P < len := by
  unfold nCh
  rw [Nat.lt_iff_add_one_le, Nat.le_div_iff_mul_le (by omega), Nat.add_mul]
  omega
/-- A part of a slice, from lo to hi. -/
theorem SlOk.part {α : Type} {w : World} {n : Nat} {enc : α → List Value} {b off len cap : Nat} {l : List α} (h : SlOk w n enc (some ⟨b, off, none⟩) len cap l) {lo hi c : Nat} (h1 : lo ≤ hi) (h2 : hi ≤ len) (h3 : hi - lo ≤ c) (h4 : lo + c ≤ cap) :
    SlOk w n enc (some ⟨b, off + lo * n, none⟩) ((l.take hi).drop lo).length c ((l.take hi).drop lo) := by
  obtain ⟨hl, hc, hm, hh⟩ := h
  have e : ((l.take hi).drop lo).length = hi - lo := by rw [List.length_drop, List.length_take]; omega
  refine ⟨rfl, by rw [e]; exact h3, by unfold maxLen at *; omega, ?_⟩
  rcases hh with hh | ⟨b', off', hb, hlt, hr⟩
  · left
    rw [hh] at hl
    exact List.eq_nil_of_length_eq_zero (by rw [e]; simp at hl; omega)
  · cases hb
    refine .inr ⟨b, off + lo * n, rfl, hlt, ?_⟩
    intro i x hx j v hv
    rw [List.getElem?_drop, List.getElem?_take] at hx
    split at hx
    · have := hr (lo + i) x hx j v hv
      rw [Nat.add_mul] at this
      rw [show off + lo * n + i * n + j = off + (lo * n + i * n) + j by omega]; exact this
    · cases hx

set_option maxHeartbeats 1000000 in
theorem chunk_any (a : Option Addr) (len cap : Nat) (per : Int) (w : World) (hp : 1 ≤ per) :
    Calls Tryd.prog 25 #[.slice a len cap, .int .i64 per] w fun e w' => e = .returned (.func (.func 37) #[] #[.pointer (some ⟨w.heap.size, 0, none⟩), .pointer (some ⟨w.heap.size + 1, 0, none⟩)]) ∧
      w' = (w.alloc (.cells #[.slice a len cap] 41)).alloc (.cells #[.int .i64 per] 3) := by
  have j : decide (per < 1) = false := decide_eq_false (by omega)
  go_enter Tryd.func25, Tryd.ntmps25
  go_wp2
  go_ret
  exact ⟨rfl, rfl⟩
/-- The piece k, as a value. -/
def chV (b off len P k : Nat) : Value := .slice (some ⟨b, off + k * P * 6, none⟩) (min P (len - k * P)) (min P (len - k * P))
def chK (Bp Bn : Nat) (b : Nat) : Prop := b = Bp ∨ b = Bn

set_option maxRecDepth 100000 in
set_option maxHeartbeats 2000000 in
theorem chunk1_in (n : Nat) (hn : 1 ≤ n) (lp Bp Bn : Nat) (a : Option Addr) (b off len cap P : Nat) (ha : len = 0 ∨ a = some ⟨b, off, none⟩) (hP : 1 ≤ P) (hP2 : P ≤ 9223372036854775807) (hlc : len ≤ cap) (hcm : cap ≤ 9223372036854775807) (h6 : len ≤ 60) (J Jx : List (Fin (nCh len P)) → World → Prop) {B : Nat} (hJ : AbidesFrom B J)
    (hY : ∀ pre (x : Fin (nCh len P)) W1, J pre W1 → pre.length < nCh len P → YieldAt Fence.wide (n - 1) Tryd.prog lp #[chV b off len P x.val] W1 fun e W' =>
      (e = .returned (.bool true) ∧ J (pre ++ [x]) W' ∧ CK (chK Bp Bn) W1 W') ∨ (e = .returned (.bool false) ∧ Jx (pre ++ [x]) W'))
    (W : World) (hBp : W.cell? ⟨Bp, 0, none⟩ = some (.slice a len cap)) (hBn : W.cell? ⟨Bn, 0, none⟩ = some (.int .i64 (P : Int))) (h0 : J [] W) :
    CallsIn Fence.wide n Tryd.prog 37 #[.func (.yield lp) #[] #[], .pointer (some ⟨Bp, 0, none⟩), .pointer (some ⟨Bn, 0, none⟩)] W fun e W' => (∃ v, e = .returned v) ∧
      ((∃ ys, ys = firsts (nCh len P) (nCh len P) ∧ J ys W') ∨ (∃ pre, (∃ k, k ≤ nCh len P ∧ pre = firsts (nCh len P) k) ∧ Jx pre W')) := by
  have HJ := Lib.hid hJ
  have HY := Lib.hid hY
  have HA := Lib.hid ha
  clear hJ hY ha
  refine callsIn_of_wp Tryd.func37 rfl trivial ?_ rfl
  simp only [Tryd.ntmps37, List.size_toArray, List.length_cons, List.length_nil, Nat.reduceAdd, Nat.reduceSub, Array.replicate_succ, Array.replicate_zero, List.push_toArray, List.append_toArray, List.nil_append, List.cons_append]
  gi_wp2
  gi_loopw [4, 5] (fun v4 v5 wr => ∃ k : Nat, k ≤ nCh len P ∧ v4 = .int .i64 ((k * P : Nat) : Int) ∧ J (firsts (nCh len P) k) wr ∧ CK (chK Bp Bn) W wr) (fun v4 _ _ => len - (intOf v4).toNat)
  case atStart => exact ⟨0, Nat.zero_le _, by simp, by rw [firsts_zero]; exact h0, CK.refl _ _⟩
  case round =>
    obtain ⟨k, hk, rfl, hJs, hck⟩ := hrel
    have hBp2 := hck _ _ (.inl rfl) hBp
    have hBn2 := hck _ _ (.inr rfl) hBn
    have nBp := World.block_lt_of_cell? wr _ hBp2
    have nBn := World.block_lt_of_cell? wr _ hBn2
    simp only at nBp nBn
    by_cases hlt : k * P < len
    · have hkN : k < nCh len P := (lt_nCh hP).2 hlt
      rcases HA.out with h0 | rfl
      · omega
      · have hkP : k * P = 0 ∨ P ≤ k * P := by
          rcases Nat.eq_zero_or_pos k with rfl | hk0
          · left; simp
          · right; exact Nat.le_mul_of_pos_left _ hk0
        have hsu : (k + 1) * P = k * P + P := by rw [Nat.add_mul]; omega
        have hYk := fun w => HY.out (firsts (nCh len P) k) ⟨k, hkN⟩ w
        rw [← firsts_succ hkN] at hYk
        unfold chV at hYk
        simp only at hYk
        obtain ⟨I, hI⟩ : ∃ I, k * P = I := ⟨_, rfl⟩
        rw [hI] at hYk hsu hkP hlt ⊢
        obtain ⟨m, hm, hif⟩ : ∃ m, min P (len - I) = m ∧ (if len - I < P then ((len - I : Nat) : Int) else (P : Int)) = (m : Int) := ⟨_, rfl, by split <;> omega⟩
        rw [hm] at hYk
        have hm1 : 1 ≤ m := by omega
        have hm2 : I + m ≤ len := by omega
        have HYK := Lib.hid hYk
        have HSU := Lib.hid hsu
        have HJS := Lib.hid hJs
        have HI := Lib.hid hI
        have HKN := Lib.hid hkN
        have HCK := Lib.hid hck
        have hle : I ≤ len := Nat.le_of_lt hlt
        have hne : ¬ cap = I := by omega
        clear hBp hBn h0 hYk hsu hI hkN HY hJs hck
        gi_wp2_with fail
        refine wpIn_wide.2 ?_
        (refine wp_region_held_drew (S := (fun w' => (∀ b o, b < wr.heap.size → w'.cell? ⟨b, o, none⟩ = wr.cell? ⟨b, o, none⟩) ∧ Kp wr w')) (by kernel_rfl) ?_ (fun hHd => ?_); (focus ((try dsimp only); (first | with_reducible assumption | with_reducible exact held_start _ | with_reducible exact held_next (by assumption) (by assumption) | with_reducible exact held_alloc (by assumption) _ | with_reducible exact held_drew (by assumption) | ((with_reducible refine held_kp ?_); (repeat (first | with_reducible assumption | with_reducible exact Kp.refl _ | with_reducible refine Kp.drew ?_ | with_reducible refine Kp.drewN ?_ _ | with_reducible refine Kp.alloc ?_ _ | ((with_reducible refine Kp.setCell ?_ ?_ _); rotate_left; (focus (first | omega | (simp; done) | (simp; omega)))) | with_reducible refine Kp.trans ?_ (by assumption))))))))
        (refine takeH (i := 0) (oi := ?o17) (v := ?v17) ?h17 (by kernel_rfl) ?q17 (Or.inl ⟨?w17, ?y17⟩) (by assumption) ?r17; (case h17 => ((simp only [g1, g3]); rfl)); (case q17 => exact fun _ _ _ h => h); (case w17 => rfl); (case y17 => (intro w' hSw; (try dsimp only at hSw); go_simp; (try with_reducible rfl))); (try simp only [Act.put, s1, s2, s3]))
        (refine takeH (i := 1) (oi := ?o18) (v := ?v18) ?h18 (by kernel_rfl) ?q18 (Or.inl ⟨?w18, ?y18⟩) (by assumption) ?r18; (case h18 => ((simp only [g1, g2, g3]); rfl)); (case q18 => exact fun _ _ _ h => h); (case w18 => rfl); (case y18 => (intro w' hSw; (try dsimp only at hSw); go_simp; (try with_reducible rfl))); (try simp only [Act.put, s1, s2, s3]))
        (refine takeH (i := 2) (oi := ?o19) (v := ?v19) ?h19 (by kernel_rfl) ?q19 (Or.inl ⟨?w19, ?y19⟩) (by assumption) ?r19; (case h19 => ((simp only [g1, g2, g3]); rfl)); (case q19 => exact fun _ _ _ h => h); (case w19 => rfl); (case y19 => (intro w' hSw; (try dsimp only at hSw); go_simp; (try with_reducible rfl))); (try simp only [Act.put, s1, s2, s3]))
        (refine takeH (i := 3) (oi := ?o20) (v := ?v20) ?h20 (by kernel_rfl) ?q20 (Or.inl ⟨?w20, ?y20⟩) (by assumption) ?r20; (case h20 => ((simp only [g1, g2, g3]); rfl)); (case q20 => exact fun _ _ _ h => h); (case w20 => rfl); (case y20 => (intro w' hSw; (try dsimp only at hSw); go_simp; (try with_reducible rfl))); (try simp only [Act.put, s1, s2, s3]))
        (refine takeH (i := 4) (oi := ?o21) (v := ?v21) ?h21 (by kernel_rfl) ?q21 (Or.inl ⟨?w21, ?y21⟩) (by assumption) ?r21; (case h21 => ((simp only [g1, g2, g3]); rfl)); (case q21 => exact fun _ _ _ h => h); (case w21 => rfl); (case y21 => (intro w' hSw; (try dsimp only at hSw); go_simp; (try with_reducible rfl))); (try simp only [Act.put, s1, s2, s3]))
        (refine takeH (i := 5) (oi := ?o22) (v := ?v22) ?h22 (by kernel_rfl) ?q22 (Or.inl ⟨?w22, ?y22⟩) (by assumption) ?r22; (case h22 => ((simp only [g1, g2, g3]); rfl)); (case q22 => exact fun _ _ _ h => h); (case w22 => rfl); (case y22 => (intro w' hSw; (try dsimp only at hSw); go_simp; (try with_reducible rfl))); (try simp only [Act.put, s1, s2, s3]))
        (refine takeH (i := 6) (oi := ?o23) (v := ?v23) ?h23 (by kernel_rfl) ?q23 (Or.inl ⟨?w23, ?y23⟩) (by assumption) ?r23; (case h23 => ((simp only [g1, g2, g3]); rfl)); (case q23 => exact fun _ _ _ h => h); (case w23 => rfl); (case y23 => (intro w' hSw; (try dsimp only at hSw); go_simp; (try with_reducible rfl))); (try simp only [Act.put, s1, s2, s3]))
        refine wpAnyH_done (by kernel_rfl) ?_ _
        have nm : ¬ I + m = I := by omega
        have nc : I + m ≤ cap := by omega
        clear hif hm HA hle
        gi_wp2_with fail
        have hJ2 := abide HJ.out HJS.out (Kp.refl wr).drew
        have hBn4 : wr.drew.cell? ⟨Bn, 0, none⟩ = some (.int .i64 (P : Int)) := hBn2
        have hck2 := CK.drew HCK.out
        clear hHd hBp2 hBn2 hne HCK HJS nBp nBn
        generalize wr.drew = W2 at hJ2 hBn4 hck2 ⊢
        have HCK := Lib.hid hck2
        clear hck2
        obtain ⟨fn, tmps, assign, body, hy, hR⟩ := HYK.out W2 hJ2 (by rw [firsts_length (by omega)]; exact HKN.out)
        (try dsimp only at hy)
        clear HYK nm nc hJ2
        rw [hy]
        refine ⟨fun _ => hn, hR.mono ?_⟩
        rintro e W3 (⟨rfl, hJ3, hk3⟩ | ⟨rfl, hJx3⟩)
        · have hBn3 : W3.cell? ⟨Bn, 0, none⟩ = some (.int .i64 (P : Int)) := hk3 _ _ (.inr rfl) hBn4
          have hIP : I + P ≤ 9223372036854775807 := by omega
          clear hBn4
          gi_wp2
          go_roundw
          case rel => exact ⟨k + 1, HKN.out, by rw [HSU.out]; go_num, hJ3, HCK.out.trans hk3⟩
          case measure => simp [intOf]; omega
        · gi_wp2
          refine bodyPost_ret (results_none rfl _ _ _) rfl ?_
          exact ⟨⟨_, rfl⟩, .inr ⟨_, ⟨k + 1, HKN.out, rfl⟩, hJx3⟩⟩
    · obtain rfl : k = nCh len P := by
        have : ¬ k < nCh len P := fun h => hlt ((lt_nCh (len := len) (k := k) hP).1 h)
        omega
      obtain ⟨I, hI⟩ : ∃ I, nCh len P * P = I := ⟨_, rfl⟩
      rw [hI] at hlt ⊢
      have j : decide ((I : Int) < (len : Int)) = false := decide_eq_false (by omega)
      clear hI
      gi_wp2
      go_end0
      exact ⟨⟨_, rfl⟩, .inl ⟨_, rfl, hJs⟩⟩
theorem chunk_stops (n : Nat) (hn : 1 ≤ n) (Bp Bn : Nat) (a : Option Addr) (b off len cap P : Nat) (ha : len = 0 ∨ a = some ⟨b, off, none⟩) (hP : 1 ≤ P) (hP2 : P ≤ 9223372036854775807) (hlc : len ≤ cap) (hcm : cap ≤ 9223372036854775807) (h6 : len ≤ 60) (w : World)
    (hBp : w.cell? ⟨Bp, 0, none⟩ = some (.slice a len cap)) (hBn : w.cell? ⟨Bn, 0, none⟩ = some (.int .i64 (P : Int))) :
    SeqStopsK Fence.wide n Tryd.prog 37 #[.pointer (some ⟨Bp, 0, none⟩), .pointer (some ⟨Bn, 0, none⟩)] (fun x : Fin (nCh len P) => #[chV b off len P x.val])
      (CK (chK Bp Bn)) (fun xs => xs = firsts (nCh len P) (nCh len P)) (fun pre => ∃ k, k ≤ nCh len P ∧ pre = firsts (nCh len P) k) (nCh len P) w := fun lp J Jx W hW hJ _ hY h0 =>
  chunk1_in n hn lp Bp Bn a b off len cap P ha hP hP2 hlc hcm h6 J Jx hJ hY W (Kp.ck (K := fun _ => True) hW _ _ trivial hBp) (Kp.ck (K := fun _ => True) hW _ _ trivial hBn) h0
end Go.Proofs.YtkgfnkfgmnijbaaDoor
