/- Unlike pages have unlike texts: the walk. -/
import Derived.Test.YtfiejiokconobaaDoorApartQ

import Derived.Test.YtfiejiokconobaaDoorSame2

import Derived.Test.YtfiejiokconobaaDoorLaw44

namespace Go.Proofs.YtfiejiokconobaaDoor

open Go.RowKit

structure Puts2 where
  k0 : Int
  n0 : Int
  l0 : Int
  y0 : Int
  h0 : Int
  k1 : Int
  n1 : Int
  l1 : Int
  y1 : Int
  h1 : Int
/-- Its cells. -/
def Puts2.cells (x : Puts2) : List Value := [.int .i64 x.k0, .int .i64 x.n0, .int .i64 x.l0, .int .i64 x.y0, .int .i64 x.h0, .int .i64 x.k1, .int .i64 x.n1, .int .i64 x.l1, .int .i64 x.y1, .int .i64 x.h1]
/-- The value. -/
def Puts2.v (x : Puts2) : Value := .agg #[.int .i64 x.k0, .int .i64 x.n0, .int .i64 x.l0, .int .i64 x.y0, .int .i64 x.h0, .int .i64 x.k1, .int .i64 x.n1, .int .i64 x.l1, .int .i64 x.y1, .int .i64 x.h1]
def Puts2.ok (x : Puts2) : Prop := I64 x.k0 ∧ I64 x.n0 ∧ I64 x.l0 ∧ I64 x.y0 ∧ I64 x.h0 ∧ I64 x.k1 ∧ I64 x.n1 ∧ I64 x.l1 ∧ I64 x.y1 ∧ I64 x.h1
theorem Puts2.of_cells {cs : List Value} (h : Open.allOk [.int .i64, .int .i64, .int .i64, .int .i64, .int .i64, .int .i64, .int .i64, .int .i64, .int .i64, .int .i64] cs) : ∃ x : Puts2, cs = x.cells ∧ x.ok := by
  obtain _ | ⟨c0, cs⟩ := cs; · exact absurd h id
  obtain _ | ⟨c1, cs⟩ := cs; · exact absurd h.2 id
  obtain _ | ⟨c2, cs⟩ := cs; · exact absurd h.2.2 id
  obtain _ | ⟨c3, cs⟩ := cs; · exact absurd h.2.2.2 id
  obtain _ | ⟨c4, cs⟩ := cs; · exact absurd h.2.2.2.2 id
  obtain _ | ⟨c5, cs⟩ := cs; · exact absurd h.2.2.2.2.2 id
  obtain _ | ⟨c6, cs⟩ := cs; · exact absurd h.2.2.2.2.2.2 id
  obtain _ | ⟨c7, cs⟩ := cs; · exact absurd h.2.2.2.2.2.2.2 id
  obtain _ | ⟨c8, cs⟩ := cs; · exact absurd h.2.2.2.2.2.2.2.2 id
  obtain _ | ⟨c9, cs⟩ := cs; · exact absurd h.2.2.2.2.2.2.2.2.2 id
  obtain _ | ⟨c, cs⟩ := cs; rotate_left; · exact absurd h.2.2.2.2.2.2.2.2.2.2 id
  obtain ⟨⟨x0, rfl, w0⟩, ⟨x1, rfl, w1⟩, ⟨x2, rfl, w2⟩, ⟨x3, rfl, w3⟩, ⟨x4, rfl, w4⟩, ⟨x5, rfl, w5⟩, ⟨x6, rfl, w6⟩, ⟨x7, rfl, w7⟩, ⟨x8, rfl, w8⟩, ⟨x9, rfl, w9⟩, _⟩ := h
  exact ⟨⟨x0, x1, x2, x3, x4, x5, x6, x7, x8, x9⟩, rfl, ⟨Open.i64_of w0, Open.i64_of w1, Open.i64_of w2, Open.i64_of w3, Open.i64_of w4, Open.i64_of w5, Open.i64_of w6, Open.i64_of w7, Open.i64_of w8, Open.i64_of w9⟩⟩
theorem Open.flat_puts2 : Open.flatK Tryd.prog 4 31 = some [.int .i64, .int .i64, .int .i64, .int .i64, .int .i64, .int .i64, .int .i64, .int .i64, .int .i64, .int .i64] := by kernel_rfl
set_option maxRecDepth 100000 in
theorem Open.open_puts2 {H : Type} {enc : TypeId × Value → H} {w : World} {base : Nat} {spare : Nat → Bool} {held : Bool} {r : Reach} {b0 : Nat} {v : Value} {d : DataW H} {p : List MemPlace}
    (hv : Value.okWide Tryd.prog w r b0 31 v) (h : DataW.Trod enc Tryd.prog w base spare held 31 v d p) : ∃ x : Puts2, v = x.v ∧ x.ok := by
  obtain ⟨cs, hc, hk⟩ := Open.open_flat 4 Open.flat_puts2 (by rw [Tryd.underlying31]; rfl) hv h
  subst hc
  obtain ⟨x, rfl, hx⟩ := Puts2.of_cells hk
  exact ⟨x, rfl, hx⟩
def Open.zero_puts2 : Value := .agg #[.int .i64 0, .int .i64 0, .int .i64 0, .int .i64 0, .int .i64 0, .int .i64 0, .int .i64 0, .int .i64 0, .int .i64 0, .int .i64 0]
theorem bad_cases (z : Put) : (0 < z.k ∧ z.k < 4 ∧ z.l ≠ 0) ∨ (0 < z.k ∧ z.k < 4 ∧ z.l = 0 ∧ z.k = 3 ∧ z.n ≠ 0) ∨ (badP z = false ∧ 0 < z.k ∧ z.k < 4 ∧ z.l = 0 ∧ z.k = 3 ∧ z.n = 0) ∨ (badP z = false ∧ 0 < z.k ∧ z.k < 4 ∧ z.l = 0 ∧ z.k ≠ 3) ∨ (badP z = false ∧ ¬ 0 < z.k) ∨ (badP z = false ∧ 0 < z.k ∧ ¬ z.k < 4) := by
  unfold badP
  by_cases h1 : 0 < z.k
  · by_cases h2 : z.k < 4
    · by_cases h3 : z.l = 0
      · by_cases h4 : z.k = 3
        · by_cases h5 : z.n = 0
          · simp [*]
          · simp [*]
        · simp [*]
      · simp [*]
    · have h4 : ¬ z.k = 3 := by omega
      simp [*]
  · have h4 : ¬ z.k = 3 := by omega
    simp [*]
set_option maxRecDepth 100000 in
set_option maxHeartbeats 8000000 in
theorem showApartLaw_any (a : Option Addr) (cap : Nat) (l : List Page) (b : Option Addr) (bcap : Nat) (r : List Page) (p : Puts2) (w : World) (hl : SlOk w 4 Page.cells a l.length cap l) (hg : ∀ y, y ∈ l → y.good w)
    (hr : SlOk w 4 Page.cells b r.length bcap r) (hrg : ∀ y, y ∈ r → y.good w) (hp : p.ok) (he : Env w) :
    Calls Tryd.prog 5 #[.slice a l.length cap, .slice b r.length bcap, p.v] w fun e w' => e = .returned (.bool true) ∧ Kp w w' := by
  have HE := Lib.hid he
  have HL := Lib.hid hl
  have HG := Lib.hid hg
  have HR := Lib.hid hr
  have HRG := Lib.hid hrg
  have C1 : Hid (∀ w', Kp w w' → Calls Tryd.prog 6 #[.slice a l.length cap] w' fun e w'' => e = .returned (.bool (largeL l)) ∧ w'' = w') := Lib.hid fun w' k => large_any a _ cap l w' (HL.out.kp k) (fun y hy => (HG.out y hy).kp k)
  have C2 : Hid (∀ w', Kp w w' → Calls Tryd.prog 6 #[.slice b r.length bcap] w' fun e w'' => e = .returned (.bool (largeL r)) ∧ w'' = w') := Lib.hid fun w' k => large_any b _ bcap r w' (HR.out.kp k) (fun y hy => (HRG.out y hy).kp k)
  obtain ⟨p0, p1, p2, p3, p4, p5, p6, p7, p8, p9⟩ := p
  have hp0 : Put.ok ⟨p0, p1, p2, p3, p4⟩ := ⟨hp.1, hp.2.1, hp.2.2.1, hp.2.2.2.1, hp.2.2.2.2.1⟩
  have C3 : Hid (∀ w', Kp w w' → Calls Tryd.prog 14 #[.agg #[.int .i64 p0, .int .i64 p1, .int .i64 p2, .int .i64 p3, .int .i64 p4]] w' fun e w'' => e = .returned (sv (putL ⟨p0, p1, p2, p3, p4⟩)) ∧ Kp w' w'') := Lib.hid fun w' k => put_any ⟨p0, p1, p2, p3, p4⟩ hp0 w' (HE.out.kp k)
  have C4 : Hid (∀ w', Calls Tryd.prog 15 #[.agg #[.int .i64 p0, .int .i64 p1, .int .i64 p2, .int .i64 p3, .int .i64 p4]] w' fun e w'' => e = .returned (sv (putL ⟨p0, p1, p2, p3, p4⟩)) ∧ Kp w' w'') := Lib.hid fun w' => refPut_any ⟨p0, p1, p2, p3, p4⟩ hp0 w'
  obtain ⟨PT, hPT⟩ : ∃ P, putL ⟨p0, p1, p2, p3, p4⟩ = P := ⟨_, rfl⟩
  rw [hPT] at C3 C4
  unfold Puts2.v
  simp only
  clear he hl hg hr hrg hp hp0 hPT
  go_enter Tryd.func5, Tryd.ntmps5
  by_cases hb1 : largeL l = true
  · go_wp2_with fail
    refine (C1.out _ (by (repeat (first | with_reducible assumption | with_reducible exact Kp.refl _ | with_reducible refine Kp.drew ?_ | with_reducible refine Kp.drewN ?_ _ | with_reducible refine Kp.alloc ?_ _ | ((with_reducible refine Kp.setCell ?_ ?_ _); rotate_left; (focus (first | omega | (simp; done) | (simp; omega)))) | with_reducible refine Kp.trans ?_ (by assumption))))).mono ?_
    rintro e w1 ⟨rfl, rfl⟩
    go_wp2_with fail
    refine (awake44_any _ (HE.out.kp (by (repeat (first | with_reducible assumption | with_reducible exact Kp.refl _ | with_reducible refine Kp.drew ?_ | with_reducible refine Kp.drewN ?_ _ | with_reducible refine Kp.alloc ?_ _ | ((with_reducible refine Kp.setCell ?_ ?_ _); rotate_left; (focus (first | omega | (simp; done) | (simp; omega)))) | with_reducible refine Kp.trans ?_ (by assumption)))))).mono ?_
    rintro e w2 ⟨rfl, k2⟩
    go_wp2_with fail
    (try go_ret)
    exact ⟨rfl, Kp.trans (by (repeat (first | with_reducible assumption | with_reducible exact Kp.refl _ | with_reducible refine Kp.drew ?_ | with_reducible refine Kp.drewN ?_ _ | with_reducible refine Kp.alloc ?_ _ | ((with_reducible refine Kp.setCell ?_ ?_ _); rotate_left; (focus (first | omega | (simp; done) | (simp; omega)))) | with_reducible refine Kp.trans ?_ (by assumption)))) k2⟩
  · have hb1' : largeL l = false := by simpa using hb1
    by_cases hb2 : largeL r = true
    · go_wp2_with fail
      refine (C1.out _ (by (repeat (first | with_reducible assumption | with_reducible exact Kp.refl _ | with_reducible refine Kp.drew ?_ | with_reducible refine Kp.drewN ?_ _ | with_reducible refine Kp.alloc ?_ _ | ((with_reducible refine Kp.setCell ?_ ?_ _); rotate_left; (focus (first | omega | (simp; done) | (simp; omega)))) | with_reducible refine Kp.trans ?_ (by assumption))))).mono ?_
      rintro e w1 ⟨rfl, rfl⟩
      go_wp2_with fail
      refine (C2.out _ (by (repeat (first | with_reducible assumption | with_reducible exact Kp.refl _ | with_reducible refine Kp.drew ?_ | with_reducible refine Kp.drewN ?_ _ | with_reducible refine Kp.alloc ?_ _ | ((with_reducible refine Kp.setCell ?_ ?_ _); rotate_left; (focus (first | omega | (simp; done) | (simp; omega)))) | with_reducible refine Kp.trans ?_ (by assumption))))).mono ?_
      rintro e w1 ⟨rfl, rfl⟩
      go_wp2_with fail
      refine (awake44_any _ (HE.out.kp (by (repeat (first | with_reducible assumption | with_reducible exact Kp.refl _ | with_reducible refine Kp.drew ?_ | with_reducible refine Kp.drewN ?_ _ | with_reducible refine Kp.alloc ?_ _ | ((with_reducible refine Kp.setCell ?_ ?_ _); rotate_left; (focus (first | omega | (simp; done) | (simp; omega)))) | with_reducible refine Kp.trans ?_ (by assumption)))))).mono ?_
      rintro e w2 ⟨rfl, k2⟩
      go_wp2_with fail
      (try go_ret)
      exact ⟨rfl, Kp.trans (by (repeat (first | with_reducible assumption | with_reducible exact Kp.refl _ | with_reducible refine Kp.drew ?_ | with_reducible refine Kp.drewN ?_ _ | with_reducible refine Kp.alloc ?_ _ | ((with_reducible refine Kp.setCell ?_ ?_ _); rotate_left; (focus (first | omega | (simp; done) | (simp; omega)))) | with_reducible refine Kp.trans ?_ (by assumption)))) k2⟩
    · have hb2' : largeL r = false := by simpa using hb2
      have HS1 := Lib.hid (small_of hb1')
      have HS2 := Lib.hid (small_of hb2')
      have hN1 := (HS1.out).all
      have hN2 := (HS2.out).all
      clear hb1 hb2
      go_wp2_with fail
      refine (C1.out _ (by (repeat (first | with_reducible assumption | with_reducible exact Kp.refl _ | with_reducible refine Kp.drew ?_ | with_reducible refine Kp.drewN ?_ _ | with_reducible refine Kp.alloc ?_ _ | ((with_reducible refine Kp.setCell ?_ ?_ _); rotate_left; (focus (first | omega | (simp; done) | (simp; omega)))) | with_reducible refine Kp.trans ?_ (by assumption))))).mono ?_
      rintro e w1 ⟨rfl, rfl⟩
      go_wp2_with fail
      refine (C2.out _ (by (repeat (first | with_reducible assumption | with_reducible exact Kp.refl _ | with_reducible refine Kp.drew ?_ | with_reducible refine Kp.drewN ?_ _ | with_reducible refine Kp.alloc ?_ _ | ((with_reducible refine Kp.setCell ?_ ?_ _); rotate_left; (focus (first | omega | (simp; done) | (simp; omega)))) | with_reducible refine Kp.trans ?_ (by assumption))))).mono ?_
      rintro e w1 ⟨rfl, rfl⟩
      clear C1 C2
      go_wp2_with fail
      
      refine named_world (F := fun w1 => Blk w1 w.heap.size [.int .i64 p0, .int .i64 p1, .int .i64 p2, .int .i64 p3, .int .i64 p4, .int .i64 p5, .int .i64 p6, .int .i64 p7, .int .i64 p8, .int .i64 p9] 31 ∧ Kp w w1) ⟨(by (repeat (first | with_reducible assumption | ((with_reducible refine Blk.newL ?_ ?_); (focus (first | (simp; done) | omega)); rfl) | with_reducible refine Blk.drew ?_ | with_reducible refine Blk.drewN ?_ _ | with_reducible refine Blk.alloc ?_ _ | ((with_reducible refine Blk.other ?_ ?_ _); rotate_left; (focus (first | with_reducible assumption | omega | (simp; done) | (simp; omega))))))), (by (repeat (first | with_reducible assumption | with_reducible exact Kp.refl _ | with_reducible refine Kp.drew ?_ | with_reducible refine Kp.drewN ?_ _ | with_reducible refine Kp.alloc ?_ _ | ((with_reducible refine Kp.setCell ?_ ?_ _); rotate_left; (focus (first | omega | (simp; done) | (simp; omega)))) | with_reducible refine Kp.trans ?_ (by assumption))))⟩ ?_; rintro w1 ⟨bp, kw1⟩; have bp_0 := bp.cell 0 rfl; have bp_1 := bp.cell 1 rfl; have bp_2 := bp.cell 2 rfl; have bp_3 := bp.cell 3 rfl; have bp_4 := bp.cell 4 rfl; have bp_5 := bp.cell 5 rfl; have bp_6 := bp.cell 6 rfl; have bp_7 := bp.cell 7 rfl; have bp_8 := bp.cell 8 rfl; have bp_9 := bp.cell 9 rfl; have bp_ne := bp.lt; have bp_n1 := Nat.lt_add_one_of_lt bp_ne; have bp_n2 := Nat.lt_add_one_of_lt bp_n1
      (refine wp_region_held_drew (S := (fun w' => (∀ b o, b < w1.heap.size → w'.cell? ⟨b, o, none⟩ = w1.cell? ⟨b, o, none⟩) ∧ Kp w1 w')) (by kernel_rfl) ?_ (fun hHd => ?_); (focus ((try dsimp only); (first | with_reducible assumption | with_reducible exact held_start _ | with_reducible exact held_next (by assumption) (by assumption) | with_reducible exact held_alloc (by assumption) _ | with_reducible exact held_drew (by assumption) | ((with_reducible refine held_kp ?_); (repeat (first | with_reducible assumption | with_reducible exact Kp.refl _ | with_reducible refine Kp.drew ?_ | with_reducible refine Kp.drewN ?_ _ | with_reducible refine Kp.alloc ?_ _ | ((with_reducible refine Kp.setCell ?_ ?_ _); rotate_left; (focus (first | omega | (simp; done) | (simp; omega)))) | with_reducible refine Kp.trans ?_ (by assumption))))))))
      (refine takeH (i := 0) (oi := ?o1) (v := ?v1) ?h1 (by kernel_rfl) ?q1 (Or.inl ⟨?w1, ?y1⟩) (by assumption) ?r1; (case h1 => ((simp only [g1, g3]); rfl)); (case q1 => exact fun _ _ _ h => h); (case w1 => rfl); (case y1 => (intro w' hSw; (try dsimp only at hSw); go_simp; (try with_reducible rfl))); (try simp only [Act.put, s1, s2, s3]))
      (refine takeH (i := 1) (oi := ?o2) (v := ?v2) ?h2 (by kernel_rfl) ?q2 (Or.inl ⟨?w2, ?y2⟩) (by assumption) ?r2; (case h2 => ((simp only [g1, g2, g3]); rfl)); (case q2 => exact fun _ _ _ h => h); (case w2 => rfl); (case y2 => (intro w' hSw; (try dsimp only at hSw); go_simp; (try with_reducible rfl))); (try simp only [Act.put, s1, s2, s3]))
      (refine takeH (i := 3) (oi := ?o3) (v := ?v3) ?h3 (by kernel_rfl) ?q3 (Or.inl ⟨?w3, ?y3⟩) (by assumption) ?r3; (case h3 => ((simp only [g1, g2, g3]); rfl)); (case q3 => exact fun _ _ _ h => h); (case w3 => rfl); (case y3 => (intro w' hSw; (try dsimp only at hSw); go_simp; (try with_reducible rfl))); (try simp only [Act.put, s1, s2, s3]))
      (refine takeH (i := 4) (oi := ?o4) (v := ?v4) ?h4 (by kernel_rfl) ?q4 (Or.inl ⟨?w4, ?y4⟩) (by assumption) ?r4; (case h4 => ((simp only [g1, g2, g3]); rfl)); (case q4 => exact fun _ _ _ h => h); (case w4 => rfl); (case y4 => (intro w' hSw; (try dsimp only at hSw); go_simp; (try with_reducible rfl))); (try simp only [Act.put, s1, s2, s3]))
      (refine wpAnyH_ready (rs := [2]) (by kernel_rfl) (by simp) ?_; refine AllReadyH.cons (o := ?o5) ?h5 (fun K hK => ?s5) AllReadyH.nil; (case h5 => (first | ((simp only [g1, g2, g3]); rfl) | rfl)); (go_simp; go_at_call 14; refine (C3.out _ (kw1.trans hHd.2)).mono ?_; rintro e w3 ⟨rfl, kk⟩; (try dsimp only)); refine hK.out _ _ ?_ (fun hHd => ?_); (focus ((try dsimp only); exact held_kp (hHd.2.trans kk))); clear hK K; (try simp only [Act.put]))
      (refine wpAnyH_ready (rs := [5]) (by kernel_rfl) (by simp) ?_; refine AllReadyH.cons (o := ?o7) ?h7 (fun K hK => ?s7) AllReadyH.nil; (case h7 => (first | ((simp only [g1, g2, g3]); rfl) | rfl)); (go_simp; go_at_call 15; refine (C4.out _).mono ?_; rintro e w4 ⟨rfl, kk⟩; (try dsimp only)); refine hK.out _ _ ?_ (fun hHd => ?_); (focus ((try dsimp only); exact held_kp (hHd.2.trans kk))); clear hK K; (try simp only [Act.put]))
      (refine takeH (i := 6) (oi := ?o9) (v := ?v9) ?h9 (by kernel_rfl) ?q9 (Or.inl ⟨?w9, ?y9⟩) (by assumption) ?r9; (case h9 => ((simp only [g1, g2, g3]); rfl)); (case q9 => exact fun _ _ _ h => h); (case w9 => rfl); (case y9 => (intro w' hSw; (try dsimp only at hSw); go_simp; (try with_reducible rfl))); (try simp only [Act.put, s1, s2, s3]))
      refine wpAnyH_done (by kernel_rfl) ?_ _
      have kw4 := kw1.trans hHd.2
      clear hHd C3 C4
      go_wp2_with fail
      refine (refPuts_any a cap l _ (HL.out.kp kw4) (fun y hy => (HG.out y hy).kp kw4) (by omega)).mono ?_
      rintro e w5 ⟨v5, rfl, hr5, k5⟩
      have kw5 := kw4.trans k5
      have hz8 := k5.size
      clear k5
      go_wp2_with fail
      refine (refPuts_any b bcap r _ (HR.out.kp kw5) (fun y hy => (HRG.out y hy).kp kw5) (by omega)).mono ?_
      rintro e w6 ⟨v6, rfl, hr6, k6⟩
      have kw6 := kw5.trans k6
      have hr5' := hr5.kp k6
      obtain ⟨ra, rc, rfl, hrs⟩ := hr6.sl (fun _ => rfl)
      have HR5 := Lib.hid hr5'
      have HRS := Lib.hid hrs
      have hz4 := kw4.size
      have hz6 := kw6.size
      have hz5 := k6.size
      have hz7 := kw5.size
      clear hr5 hr5' hr6 hrs k6
      go_wp2_with (at_builtin; refine rowAppendSL ?gd (.tmp 24) (.tmp 26) 33 ?ho Tryd.underlying33 infoPut rfl (by decide) (fun _ => rfl) HR5.out ?hs HRS.out ?hx put_one ?hl ?hb ?hz ?_; (case gd => rfl); (case ho => rfl); (case hs => rfl); (case hx => rfl); (case hl => unfold maxLen; omega); (case hb => omega); (case hz => omega); intro v7 w7 hr7 hkk _)
      have kw7 : Kp w w7 := hkk (by omega) kw6
      obtain ⟨qa, qc, rfl, hqs⟩ := hr7.sl (fun _ => rfl)
      have HQ := Lib.hid hqs
      have hql : (putsOf l ++ putsOf r).length ≤ 160000 := by rw [List.length_append]; omega
      have hqc := hqs.2.1
      have hqm := hqs.2.2.1
      unfold maxLen at hqm
      have APT : Hid ((∀ z, z ∈ putsOf l ++ putsOf r → badP z = false) → (pagesN l l.length = pagesN r r.length ↔ eqL eqPage l r = true)) := Lib.hid (fun h => apart (okAll_of fun z hz => h z (List.mem_append_left _ hz)) (okAll_of fun z hz => h z (List.mem_append_right _ hz)))
      obtain ⟨q, hq⟩ : ∃ q, putsOf l ++ putsOf r = q := ⟨_, rfl⟩
      rw [hq] at HQ hql hqc APT ⊢
      obtain ⟨A, hA⟩ : ∃ A, pagesN l l.length = A := ⟨_, rfl⟩
      obtain ⟨B, hB⟩ : ∃ A, pagesN r r.length = A := ⟨_, rfl⟩
      obtain ⟨S, hS⟩ : ∃ A, eqL eqPage l r = A := ⟨_, rfl⟩
      have C5 : Hid (∀ w', Kp w w' → Calls Tryd.prog 8 #[.slice a l.length cap] w' fun e w'' => e = .returned (sv A) ∧ Kp w' w'') := Lib.hid fun w' k => by rw [← hA]; exact showPages_any a cap l w' (HE.out.kp k) (HL.out.kp k) (fun y hy => (HG.out y hy).kp k) HS1.out
      have C6 : Hid (∀ w', Kp w w' → Calls Tryd.prog 8 #[.slice b r.length bcap] w' fun e w'' => e = .returned (sv B) ∧ Kp w' w'') := Lib.hid fun w' k => by rw [← hB]; exact showPages_any b bcap r w' (HE.out.kp k) (HR.out.kp k) (fun y hy => (HRG.out y hy).kp k) HS2.out
      have C7 : Hid (∀ w', Kp w w' → Calls Tryd.prog 17 #[.slice a l.length cap, .slice b r.length bcap] w' fun e w'' => e = .returned (.bool S) ∧ Kp w' w'') := Lib.hid fun w' k => by rw [← hS]; exact same38_any a b cap bcap l r w' (HL.out.kp k) (fun y hy => (HG.out y hy).kp k) (HR.out.kp k) (fun y hy => (HRG.out y hy).kp k)
      rw [hA, hB, hS] at APT
      clear hr7 hqs hkk kw6 kw5 kw4 HR5 HRS hq hA hB hS bp_0 bp_1 bp_2 bp_3 bp_4 bp_5 bp_6 bp_7 bp_8 bp_9 hN1 hN2
      obtain ⟨u, rfl⟩ : ∃ u, u = w7 := ⟨_, rfl⟩
      go_wp2_with fail
      go_loopw [8] (fun v8 wr => ∃ (k : Nat), k ≤ q.length ∧ v8 = .int .i64 k ∧ (∀ j z, j < k → q[j]? = some z → badP z = false) ∧ Kp u wr) (fun v8 _ => q.length - (intOf v8).toNat)
      case atStart => exact ⟨0, Nat.zero_le _, rfl, fun j z hj => by omega, (by (repeat (first | with_reducible assumption | with_reducible exact Kp.refl _ | with_reducible refine Kp.drew ?_ | with_reducible refine Kp.drewN ?_ _ | with_reducible refine Kp.alloc ?_ _ | ((with_reducible refine Kp.setCell ?_ ?_ _); rotate_left; (focus (first | omega | (simp; done) | (simp; omega)))) | with_reducible refine Kp.trans ?_ (by assumption))))⟩
      case round =>
        obtain ⟨k, hk, rfl, hall, xk⟩ := hrel
        have HALL := Lib.hid hall
        have yk := kw7.trans xk
        clear hall
        by_cases hlt : k < q.length
        · obtain ⟨z, hz⟩ : ∃ x, q[k]? = some x := ⟨q[k]'hlt, List.getElem?_eq_getElem _⟩
          obtain ⟨ga, oa, rfl, r1⟩ := HQ.out.low (xk.ck) (by omega)
          have NX : Hid (badP z = false → ∀ j x, j < k + 1 → q[j]? = some x → badP x = false) := Lib.hid (fun h j x hj hx => by
            rcases Nat.lt_or_ge j k with c | c
            · exact HALL.out j x c hx
            · obtain rfl : j = k := by omega
              rw [hz] at hx; cases hx; exact h)
          have hbc := bad_cases z
          obtain ⟨z0, z1, z2, z3, z4⟩ := z
          have d0 := r1 k _ hz 0 _ rfl; have d1 := r1 k _ hz 1 _ rfl; have d2 := r1 k _ hz 2 _ rfl
          simp only [Nat.add_zero] at d0 d1 d2 hbc
          have j1 : decide ((k : Int) < (q.length : Int)) = true := decide_eq_true (by omega)
          clear r1 hz
          rcases hbc with ⟨h1, h2, h3⟩ | ⟨h1, h2, h3, h4, h5⟩ | ⟨hbad, h1, h2, h3, h4, h5⟩ | ⟨hbad, h1, h2, h3, h4⟩ | ⟨hbad, h1⟩ | ⟨hbad, h1, h2⟩
          · have e1 : decide (0 < z0) = true := decide_eq_true h1
            have e2 : decide (z0 < 4) = true := decide_eq_true h2
            have e3 : (z2 == 0) = false := by simpa using h3
            have e4 : (z2 != 0) = true := by simp [bne, e3]
            go_wp2_with fail
            refine (awake44_any _ (HE.out.kp yk)).mono ?_
            rintro e w9 ⟨rfl, k9⟩
            go_wp2_with fail
            (try go_ret)
            exact ⟨rfl, yk.trans k9⟩
          · subst h4
            have e3 : (z1 == 0) = false := by simpa using h5
            have e4 : (z1 != 0) = true := by simp [bne, e3]
            subst h3
            clear h1 h2
            go_wp2_with fail
            refine (awake44_any _ (HE.out.kp yk)).mono ?_
            rintro e w9 ⟨rfl, k9⟩
            go_wp2_with fail
            (try go_ret)
            exact ⟨rfl, yk.trans k9⟩
          · subst h4
            subst h3
            subst h5
            clear h1 h2
            go_wp2_with fail
            go_roundw
            case rel => exact ⟨k + 1, by omega, by go_num, NX.out hbad, xk⟩
            case measure => simp [intOf]; omega
          · have e1 : decide (0 < z0) = true := decide_eq_true h1
            have e2 : decide (z0 < 4) = true := decide_eq_true h2
            have e3 : (z0 == 3) = false := by simpa using h4
            subst h3
            go_wp2_with fail
            go_roundw
            case rel => exact ⟨k + 1, by omega, by go_num, NX.out hbad, xk⟩
            case measure => simp [intOf]; omega
          · have e1 : decide (0 < z0) = false := decide_eq_false h1
            have h4 : ¬ z0 = 3 := by omega
            have e3 : (z0 == 3) = false := by simpa using h4
            go_wp2_with fail
            go_roundw
            case rel => exact ⟨k + 1, by omega, by go_num, NX.out hbad, xk⟩
            case measure => simp [intOf]; omega
          · have e1 : decide (0 < z0) = true := decide_eq_true h1
            have e2 : decide (z0 < 4) = false := decide_eq_false h2
            have h4 : ¬ z0 = 3 := by omega
            have e3 : (z0 == 3) = false := by simpa using h4
            go_wp2_with fail
            go_roundw
            case rel => exact ⟨k + 1, by omega, by go_num, NX.out hbad, xk⟩
            case measure => simp [intOf]; omega
        · obtain rfl : k = q.length := by omega
          have j1 : decide ((q.length : Int) < (q.length : Int)) = false := decide_eq_false (by omega)
          have hap := APT.out (fun z hz => by
            obtain ⟨j, hj, e⟩ := List.getElem_of_mem hz
            exact HALL.out j z hj (by rw [List.getElem?_eq_getElem hj, e]))
          clear APT HALL
          by_cases hAB : A = B
          · obtain rfl : S = true := hap.1 hAB
            subst hAB
            clear hap
            go_wp2_with fail
            refine (C5.out _ yk).mono ?_
            rintro e w6 ⟨rfl, k6⟩
            have yk6 := yk.trans k6
            go_wp2_with fail
            refine (C6.out _ yk6).mono ?_
            rintro e w7 ⟨rfl, k7⟩
            have yk7 := yk6.trans k7
            clear yk k6 k7 yk6
            go_wp2_with fail
            refine (C7.out _ yk7).mono ?_
            rintro e w8 ⟨rfl, k8⟩
            have yk8 := yk7.trans k8
            go_wp2_with fail
            refine (awake44_any _ (HE.out.kp yk8)).mono ?_
            rintro e w9 ⟨rfl, k9⟩
            go_wp2_with fail
            (try go_ret)
            exact ⟨rfl, yk8.trans k9⟩
          · have hS : S = false := by
              rcases hSS : S with _ | _
              · rfl
              · exact absurd (hap.2 hSS) hAB
            subst hS
            have e1 : (A == B) = false := by simpa using hAB
            have e2 : ({ data := A.toArray } : ByteArray) ≠ { data := B.toArray } := fun h => hAB (by have := congrArg (fun z => z.data.toList) h; simpa using this)
            clear hap
            go_wp2_with fail
            refine (C5.out _ yk).mono ?_
            rintro e w6 ⟨rfl, k6⟩
            have yk6 := yk.trans k6
            go_wp2_with fail
            refine (C6.out _ yk6).mono ?_
            rintro e w7 ⟨rfl, k7⟩
            have yk7 := yk6.trans k7
            clear yk k6 k7 yk6
            go_wp2_with fail
            refine (C7.out _ yk7).mono ?_
            rintro e w8 ⟨rfl, k8⟩
            have yk8 := yk7.trans k8
            go_wp2_with fail
            refine (awake44_any _ (HE.out.kp yk8)).mono ?_
            rintro e w9 ⟨rfl, k9⟩
            go_wp2_with fail
            (try go_ret)
            exact ⟨rfl, yk8.trans k9⟩
theorem showApart_row (x y : SlV Page) (p : Puts2) (w : World) (h : SlOk w 4 Page.cells x.a x.len x.cap x.l ∧ ∀ y, y ∈ x.l → y.good w) (h2 : SlOk w 4 Page.cells y.a y.len y.cap y.l ∧ ∀ z, z ∈ y.l → z.good w) (hp : p.ok) (he : Env w) :
    Calls Tryd.prog 5 #[x.v, y.v, p.v] w fun e w' => e = .returned (.bool true) ∧ Kp w w' := by
  obtain ⟨xa, xl, xc, xs⟩ := x
  obtain ⟨ya, yl, yc, ys⟩ := y
  have e1 := h.1.1
  have e2 := h2.1.1
  simp only at e1 e2
  subst e1
  subst e2
  exact showApartLaw_any xa xc xs ya yc ys p w h.1 h.2 h2.1 h2.2 hp he
end Go.Proofs.YtfiejiokconobaaDoor
