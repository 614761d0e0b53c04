/- All things of pages, one after the other: the iterator's contract. -/
import Derived.Test.YtfiejiokconobaaDoorRange

import Derived.Test.YtfiejiokconobaaDoorPage

namespace Go.Proofs.YtfiejiokconobaaDoor

open Go.RowKit Go.Shelf

attribute [local go_sem] Oper.semAt_some

def pagePuts (p : Page) : List Put := p.s.l.flatMap fun x => x.s.l
def putsOf (l : List Page) : List Put := l.flatMap pagePuts
theorem all_any (a : Option Addr) (len cap : Nat) (w : World) :
    Calls Tryd.prog 37 #[.slice a len cap] w fun e w' => e = .returned (.func (.func 45) #[] #[.pointer (some ⟨w.heap.size, 0, none⟩)]) ∧ w' = w.alloc (.cells #[.slice a len cap] 22) := by
  go_enter Tryd.func37, Tryd.ntmps37
  go_wp2
  go_ret
  exact ⟨rfl, rfl⟩
/-- What lies below a bound, read through writes above it. -/
def low (n : Nat) (b : Nat) : Prop := b < n
theorem SlOk.low {α : Type} {w w' : World} {n : Nat} {enc : α → List Value} {a : Option Addr} {len cap : Nat} {l : List α} (h : SlOk w n enc a len cap l) (k : CK (low w.heap.size) w w') (hl : 0 < l.length) : ∃ b off, a = some ⟨b, off, none⟩ ∧ RowAt w' n enc b off l := by
  rcases h.2.2.2 with h4 | ⟨b, off, ha, hb, hr⟩
  · rw [h4] at hl; simp at hl
  · exact ⟨b, off, ha, fun i x hx j v hv => k ⟨b, off + i * n + j, none⟩ v hb (hr i x hx j v hv)⟩
theorem cut_at {α : Type} {l : List α} {k : Nat} {x : α} (h : l[k]? = some x) : l = l.take k ++ x :: l.drop (k + 1) := by
  obtain ⟨hk, rfl⟩ := List.getElem?_eq_some_iff.1 h
  rw [List.getElem_cons_drop, List.take_append_drop]
theorem flat_snoc2 {α β : Type} {f : α → List β} {l : List α} {k : Nat} {x : α} (h : l[k]? = some x) : (l.take (k + 1)).flatMap f = (l.take k).flatMap f ++ f x := by
  rw [List.take_add_one, h, List.flatMap_append]; simp
theorem flat_cut {α β : Type} {f : α → List β} {l : List α} {k : Nat} {x : α} (h : l[k]? = some x) : l.flatMap f = (l.take k).flatMap f ++ (f x ++ (l.drop (k + 1)).flatMap f) := by
  conv => lhs; rw [cut_at h, List.flatMap_append, List.flatMap_cons]

theorem post_of {T T2 qs R1 R2 : List Put} {z : Put} {q : Nat} (hz : qs[q]? = some z) : ∃ post, (T ++ T2 ++ qs.take q ++ [z]) ++ post = T ++ ((T2 ++ (qs ++ R2)) ++ R1) := ⟨qs.drop (q + 1) ++ (R2 ++ R1), by
  conv => rhs; rw [cut_at hz]
  simp [List.append_assoc]⟩
set_option maxRecDepth 100000 in
set_option maxHeartbeats 4000000 in
theorem all1_in (n : Nat) (hn : 1 ≤ n) (lp Bp : Nat) (a : Option Addr) (cap : Nat) (l : List Page) (w0 : World) (hl : SlOk w0 4 Page.cells a l.length cap l) (hg : ∀ y, y ∈ l → y.good w0) (J Jx : List Put → World → Prop) {B : Nat} (hJ : AbidesFrom B J)
    (hY : ∀ pre (x : Put) W1, J pre W1 → pre.length < (putsOf l).length → YieldAt Fence.wide (n - 1) Tryd.prog lp #[.agg #[.int .i64 x.k, .int .i64 x.n, .int .i64 x.l, .int .i64 x.y, .int .i64 x.h]] W1 fun e W' =>
      (e = .returned (.bool true) ∧ J (pre ++ [x]) W' ∧ CK (low w0.heap.size) W1 W') ∨ (e = .returned (.bool false) ∧ Jx (pre ++ [x]) W'))
    (W : World) (hB : W.cell? ⟨Bp, 0, none⟩ = some (.slice a l.length cap)) (h0 : J [] W) (hw0 : CK (low w0.heap.size) w0 W) :
    CallsIn Fence.wide n Tryd.prog 45 #[.func (.yield lp) #[] #[], .pointer (some ⟨Bp, 0, none⟩)] W fun e W' => (∃ v, e = .returned v) ∧
      ((∃ ys, ys = putsOf l ∧ J ys W') ∨ (∃ pre, (∃ post, pre ++ post = putsOf l) ∧ Jx pre W')) := by
  have HL := Lib.hid hl
  have HG := Lib.hid hg
  have HJ := Lib.hid hJ
  have HY := Lib.hid hY
  have hcl := hl.2.1
  have hcm := hl.2.2.1
  unfold maxLen at hcm
  clear hl hg hJ hY
  refine callsIn_of_wp Tryd.func45 rfl trivial ?_ rfl
  simp only [Tryd.ntmps45, List.size_toArray, List.length_cons, List.length_nil, Nat.reduceAdd, Nat.reduceSub, Array.replicate_succ, Array.replicate_zero, List.push_toArray, List.append_toArray, List.nil_append, List.cons_append]
  gi_wp2
  clear hB
  gi_loopw [11] (fun v11 wr => ∃ k : Nat, k ≤ l.length ∧ v11 = .int .i64 k ∧ J ((l.take k).flatMap pagePuts) wr ∧ CK (low w0.heap.size) w0 wr) (fun v11 _ => l.length - (intOf v11).toNat)
  case atStart => exact ⟨0, Nat.zero_le _, rfl, by simpa using h0, hw0⟩
  case round =>
    obtain ⟨k, hk, rfl, hJ1, hc1⟩ := hrel
    by_cases hlt : k < l.length
    · obtain ⟨x, hx⟩ : ∃ x, l[k]? = some x := ⟨l[k]'hlt, List.getElem?_eq_getElem _⟩
      have hgx := HG.out x (List.mem_of_getElem? hx)
      have hsn := flat_snoc2 (f := pagePuts) hx
      have hct := flat_cut (f := pagePuts) hx
      obtain ⟨ga, oa, rfl, r1⟩ := HL.out.low hc1 (by omega)
      obtain ⟨⟨la, ll, lc, ls⟩, pt, pf, pl⟩ := x
      have d0 := r1 k _ hx 0 _ rfl
      have d1 := r1 k _ hx 1 _ rfl
      have d2 := r1 k _ hx 2 _ rfl
      have d3 := r1 k _ hx 3 _ rfl
      simp only [Nat.add_zero] at d0 d1 d2 d3
      have j1 : decide ((k : Int) < (l.length : Int)) = true := decide_eq_true (by omega)
      obtain ⟨T, hT⟩ : ∃ T, (l.take k).flatMap pagePuts = T := ⟨_, rfl⟩
      rw [hT] at hJ1 hsn hct
      have hsl := hgx.2.2.2.1.1
      simp only at hsl
      subst hsl
      have HJ1 := Lib.hid hJ1
      have HC1 := Lib.hid hc1
      have HSN := Lib.hid hsn
      have HCT := Lib.hid hct
      have HGX := Lib.hid hgx
      clear r1 hx hJ1 hc1 hsn hct hgx hT hw0 h0
      gi_wp2
      gi_loopw [18] (fun v18 wr' => ∃ m : Nat, m ≤ ls.length ∧ v18 = .int .i64 m ∧ J (T ++ (ls.take m).flatMap fun x => x.s.l) wr' ∧ CK (low w0.heap.size) w0 wr') (fun v18 _ => ls.length - (intOf v18).toNat)
      case atStart => exact ⟨0, Nat.zero_le _, rfl, by simpa using abide HJ.out HJ1.out ((Kp.refl wr).alloc _), HC1.out.trans (CK.alloc _ _)⟩
      case round =>
        clear HJ1 HC1 d0 d1 d2 d3
        obtain ⟨m, hm, rfl, hJ2, hc2⟩ := hrel
        by_cases hlt2 : m < ls.length
        · obtain ⟨y, hy⟩ : ∃ y, ls[m]? = some y := ⟨ls[m]'hlt2, List.getElem?_eq_getElem _⟩
          have hgy := HGX.out.2.2.2.2 y (List.mem_of_getElem? hy)
          have hsn := flat_snoc2 (f := fun x : Lane => x.s.l) hy
          have hct := flat_cut (f := fun x : Lane => x.s.l) hy
          obtain ⟨gb, ob, rfl, r2⟩ := HGX.out.2.2.2.1.low hc2 (by simp only; omega)
          have hlc1 := HGX.out.2.2.2.1.2.1
          have hlc2 := HGX.out.2.2.2.1.2.2.1
          unfold maxLen at hlc2
          simp only at hlc1 hlc2
          obtain ⟨yx, ⟨qa, ql, qc, qs⟩⟩ := y
          have f0 := r2 m _ hy 0 _ rfl
          have f1 := r2 m _ hy 1 _ rfl
          simp only [Nat.add_zero] at f0 f1
          have j2 : decide ((m : Int) < (ls.length : Int)) = true := decide_eq_true (by omega)
          obtain ⟨T2, hT2⟩ : ∃ T2, (ls.take m).flatMap (fun x => x.s.l) = T2 := ⟨_, rfl⟩
          rw [hT2] at hJ2 hsn hct
          have hsl := hgy.2.1.1
          simp only at hsl
          subst hsl
          simp only at hsn hct
          have HJ2 := Lib.hid hJ2
          have HC2 := Lib.hid hc2
          have HSN2 := Lib.hid hsn
          have HCT2 := Lib.hid hct
          have HGY := Lib.hid hgy
          clear r2 hy hJ2 hc2 hsn hct hgy hT2
          gi_wp2
          gi_loopw [25] (fun v25 wr' => ∃ q : Nat, q ≤ qs.length ∧ v25 = .int .i64 q ∧ J (T ++ T2 ++ qs.take q) wr' ∧ CK (low w0.heap.size) w0 wr') (fun v25 _ => qs.length - (intOf v25).toNat)
          case atStart => exact ⟨0, Nat.zero_le _, rfl, by simpa using abide HJ.out HJ2.out ((Kp.refl wr).alloc _), HC2.out.trans (CK.alloc _ _)⟩
          case round =>
            clear HJ2 HC2 f0 f1
            obtain ⟨q, hq, rfl, hJ3, hc3⟩ := hrel
            by_cases hlt3 : q < qs.length
            · obtain ⟨z, hz⟩ : ∃ z, qs[q]? = some z := ⟨qs[q]'hlt3, List.getElem?_eq_getElem _⟩
              have hsn : qs.take (q + 1) = qs.take q ++ [z] := by rw [List.take_add_one, hz]; simp
              have hpo : ∃ post, (T ++ T2 ++ qs.take q ++ [z]) ++ post = putsOf l := by
                unfold putsOf
                rw [HCT.out]
                unfold pagePuts
                simp only
                rw [HCT2.out]
                exact post_of hz
              have HPO := Lib.hid hpo
              obtain ⟨gc, oc, rfl, r3⟩ := HGY.out.2.1.low hc3 (by simp only; omega)
              have hlc3 := HGY.out.2.1.2.1
              have hlc4 := HGY.out.2.1.2.2.1
              unfold maxLen at hlc4
              simp only at hlc3 hlc4
              have hlen : (T ++ T2 ++ qs.take q).length < (putsOf l).length := by
                unfold putsOf
                rw [HCT.out]
                unfold pagePuts
                simp only
                rw [HCT2.out]
                simp only [List.length_append, List.length_take]
                omega
              have hYk := fun w => HY.out (T ++ T2 ++ qs.take q) z w
              obtain ⟨z0, z1, z2, z3, z4⟩ := z
              have e0 := r3 q _ hz 0 _ rfl
              have e1 := r3 q _ hz 1 _ rfl
              have e2 := r3 q _ hz 2 _ rfl
              have e3 := r3 q _ hz 3 _ rfl
              have e4 := r3 q _ hz 4 _ rfl
              simp only [Nat.add_zero] at e0 e1 e2 e3 e4
              simp only at hYk
              have j3 : decide ((q : Int) < (qs.length : Int)) = true := decide_eq_true (by omega)
              have HSN3 := Lib.hid hsn
              have HC3 := Lib.hid hc3
              have hJ4 := abide HJ.out hJ3 ((Kp.refl wr).alloc (.cells #[.int .i64 z0, .int .i64 z1, .int .i64 z2, .int .i64 z3, .int .i64 z4] 30))
              obtain ⟨fn, tmps, assign, body, hy, hR⟩ := hYk _ hJ4 hlen
              (try dsimp only at hy)
              have HR := Lib.hid hR
              clear r3 hz hsn hpo hYk hJ3 hJ4 hc3 hR
              gi_wp2
              refine HR.out.mono ?_
              rintro e W3 (⟨rfl, hJ5, hk5⟩ | ⟨rfl, hJx⟩)
              · gi_wp2
                go_roundw
                case rel => exact ⟨q + 1, by omega, by go_num, by rw [HSN3.out, ← List.append_assoc]; exact hJ5, (HC3.out.trans (CK.alloc _ _)).trans hk5⟩
                case measure => simp [intOf]; omega
              · gi_wp2
                refine bodyPost_ret (results_none rfl _ _ _) rfl ?_
                exact ⟨⟨_, rfl⟩, .inr ⟨_, HPO.out, hJx⟩⟩
            · obtain rfl : q = qs.length := by omega
              have j3 : decide ((qs.length : Int) < (qs.length : Int)) = false := decide_eq_false (by omega)
              rw [List.take_length] at hJ3
              have hJ4 : J (T ++ (ls.take (m + 1)).flatMap fun x => x.s.l) wr := by rw [HSN2.out, ← List.append_assoc]; exact hJ3
              have HJ4 := Lib.hid hJ4
              clear hJ3 hJ4
              gi_wp2
              go_roundw
              case rel => exact ⟨m + 1, by omega, by go_num, HJ4.out, hc3⟩
              case measure => simp [intOf]; omega
        · obtain rfl : m = ls.length := by omega
          have j2 : decide ((ls.length : Int) < (ls.length : Int)) = false := decide_eq_false (by omega)
          rw [List.take_length] at hJ2
          have hJ4 : J ((l.take (k + 1)).flatMap pagePuts) wr := by rw [HSN.out]; exact hJ2
          have HJ4 := Lib.hid hJ4
          clear hJ2 hJ4
          gi_wp2
          go_roundw
          case rel => exact ⟨k + 1, by omega, by go_num, HJ4.out, hc2⟩
          case measure => simp [intOf]; omega
    · obtain rfl : k = l.length := by omega
      have j1 : decide ((l.length : Int) < (l.length : Int)) = false := decide_eq_false (by omega)
      rw [List.take_length] at hJ1
      gi_wp2
      go_end0
      exact ⟨⟨_, rfl⟩, .inl ⟨_, rfl, hJ1⟩⟩
theorem all_stops (n : Nat) (hn : 1 ≤ n) (Bp : Nat) (a : Option Addr) (cap : Nat) (l : List Page) (w0 : World) (hl : SlOk w0 4 Page.cells a l.length cap l) (hg : ∀ y, y ∈ l → y.good w0) (w : World)
    (hB : w.cell? ⟨Bp, 0, none⟩ = some (.slice a l.length cap)) (hw : Kp w0 w) :
    SeqStopsK Fence.wide n Tryd.prog 45 #[.pointer (some ⟨Bp, 0, none⟩)] (fun x : Put => #[.agg #[.int .i64 x.k, .int .i64 x.n, .int .i64 x.l, .int .i64 x.y, .int .i64 x.h]])
      (CK (low w0.heap.size)) (fun xs => xs = putsOf l) (fun pre => ∃ post, pre ++ post = putsOf l) (putsOf l).length w := fun lp J Jx W hW hJ _ hY h0 =>
  all1_in n hn lp Bp a cap l w0 hl hg J Jx hJ hY W (Kp.ck (K := fun _ => True) hW _ _ trivial hB) h0 (Kp.ck (hw.trans hW))
end Go.Proofs.YtfiejiokconobaaDoor
