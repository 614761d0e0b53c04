/- Part 12 of the proof: Pages as a text: what it is, and that it is not long. Pages as a text: the document's. -/
import Derived.Test.YteadhacoglcbfaaDoorZ11
namespace Go.Proofs.YteadhacoglcbfaaDoor

open Go.RowKit

def putN (p : Put) : List UInt8 := putL p ++ [10]
def laneH (x : Lane) : List UInt8 := lineL [108, 97, 110, 101] [x.x] ++ [10]
def laneL (x : Lane) : List UInt8 := laneH x ++ x.s.l.flatMap putN
def pageH (i : Nat) (p : Page) : List UInt8 := lineL [112, 97, 103, 101] [(i : Int), p.t, p.f, p.l] ++ [10]
def pageL (i : Nat) (p : Page) : List UInt8 := pageH i p ++ p.s.l.flatMap laneL
/-- The text of the first k pages. -/
def pagesN (l : List Page) (k : Nat) : List UInt8 := (List.range k).flatMap fun i => (l[i]?).elim [] (pageL i)
theorem pagesN_succ {l : List Page} {k : Nat} {p : Page} (h : l[k]? = some p) : pagesN l (k + 1) = pagesN l k ++ pageL k p := by
  unfold pagesN
  rw [List.range_succ, List.flatMap_append]; simp [h]
/-- Pages that are not more than are gone through. -/
structure Small (l : List Page) : Prop where
  pages : l.length ≤ 3000
  lanes : ∀ p, p ∈ l → p.s.l.length ≤ 3000
  puts : ∀ p, p ∈ l → ∀ x, x ∈ p.s.l → x.s.l.length ≤ 3000
theorem small_of {l : List Page} (h : largeL l = false) : Small l := by
  unfold largeL at h
  rw [Bool.or_eq_false_iff] at h
  obtain ⟨h1, h2⟩ := h
  have hl : l.length ≤ 40 := by simpa using h2
  rw [List.take_of_length_le hl, List.any_eq_false] at h1
  refine ⟨by omega, fun p hp => ?_, fun p hp x hx => ?_⟩
  · have := h1 p hp
    unfold bigPage at this
    simp only [Bool.not_eq_true, Bool.or_eq_false_iff, decide_eq_false_iff_not] at this
    omega
  · have := h1 p hp
    unfold bigPage at this
    simp only [Bool.not_eq_true, Bool.or_eq_false_iff, decide_eq_false_iff_not, List.any_eq_false] at this
    have := this.2 x hx
    unfold bigLane at this
    simp only [decide_eq_false_iff_not] at this
    omega
/-- All its numbers are int64's. -/
def Lane.num (x : Lane) : Prop := I64 x.x ∧ ∀ p, p ∈ x.s.l → p.ok
def Page.num (p : Page) : Prop := I64 p.t ∧ I64 p.f ∧ I64 p.l ∧ ∀ x, x ∈ p.s.l → x.num
theorem Page.good.num {w : World} {p : Page} (h : p.good w) : p.num := ⟨h.1, h.2.1, h.2.2.1, fun x hx => ⟨(h.2.2.2.2 x hx).1, (h.2.2.2.2 x hx).2.2⟩⟩
theorem flat_bound {α β : Type} {f : α → List β} {C : Nat} : ∀ {l : List α}, (∀ x, x ∈ l → (f x).length ≤ C) → (l.flatMap f).length ≤ l.length * C
  | [], _ => by simp
  | x :: l, h => by
    rw [List.flatMap_cons, List.length_append, List.length_cons, Nat.add_mul, Nat.one_mul]
    have h1 := h x List.mem_cons_self
    have h2 := flat_bound (l := l) (C := C) (f := f) fun y hy => h y (List.mem_cons_of_mem _ hy)
    omega
theorem putN_short (p : Put) (h : p.ok) : (putN p).length ≤ 201 := by unfold putN; have := putL_short p h; rw [List.length_append]; simp; omega
theorem laneH_short (x : Lane) (h : x.num) : (laneH x).length ≤ 100 := by
  unfold laneH
  have := lineL_short (wd := [108, 97, 110, 101]) (ns := [x.x]) (by simp [h.1])
  rw [List.length_append]; simp at this ⊢; omega
theorem laneL_short (x : Lane) (h : x.num) (hs : x.s.l.length ≤ 3000) : (laneL x).length ≤ 603100 := by
  unfold laneL
  have h1 := laneH_short x h
  have h2 := flat_bound (C := 201) (f := putN) (l := x.s.l) fun p hp => putN_short p (h.2 p hp)
  rw [List.length_append]; omega
theorem pageH_short (i : Nat) (hi : i < 5000) (p : Page) (h : p.num) : (pageH i p).length ≤ 100 := by
  unfold pageH
  have := lineL_short (wd := [112, 97, 103, 101]) (ns := [(i : Int), p.t, p.f, p.l]) (by
    intro x hx
    simp only [List.mem_cons, List.not_mem_nil, or_false] at hx
    rcases hx with rfl | rfl | rfl | rfl
    · unfold I64; omega
    · exact h.1
    · exact h.2.1
    · exact h.2.2.1)
  rw [List.length_append]; simp at this ⊢; omega
theorem pageL_short (i : Nat) (hi : i < 5000) (p : Page) (h : p.num) (hs : p.s.l.length ≤ 3000) (hs2 : ∀ x, x ∈ p.s.l → x.s.l.length ≤ 3000) : (pageL i p).length ≤ 1809300100 := by
  unfold pageL
  have h1 := pageH_short i hi p h
  have h2 := flat_bound (C := 603100) (f := laneL) (l := p.s.l) fun x hx => laneL_short x (h.2.2.2 x hx) (hs2 x hx)
  rw [List.length_append]; omega
theorem pagesN_short {l : List Page} (hs : Small l) (hn : ∀ p, p ∈ l → p.num) (k : Nat) (hk : k ≤ l.length) : (pagesN l k).length ≤ 5427900300000 := by
  unfold pagesN
  have := flat_bound (C := 1809300100) (f := fun i => (l[i]?).elim [] (pageL i)) (l := List.range k) fun i hi => by
    have hi' := List.mem_range.1 hi
    rw [List.getElem?_eq_getElem (by omega)]
    have hm := List.getElem_mem (l := l) (n := i) (by omega)
    exact pageL_short i (by have := hs.pages; omega) _ (hn _ hm) (hs.lanes _ hm) (hs.puts _ hm)
  rw [List.length_range] at this
  have := hs.pages
  omega
end Go.Proofs.YteadhacoglcbfaaDoor
namespace Go.Proofs.YteadhacoglcbfaaDoor

open Go.RowKit

set_option maxRecDepth 100000 in
set_option maxHeartbeats 4000000 in
theorem refPages_any (a : Option Addr) (cap : Nat) (l : List Page) (w : World) (hl : SlOk w 4 Page.cells a l.length cap l) (hg : ∀ y, y ∈ l → y.good w) (hs : Small l) :
    Calls Tryd.prog 15 #[.slice a l.length cap] w fun e w' => e = .returned (sv (pagesN l l.length)) ∧ Kp w w' := by
  have HL := Lib.hid hl
  have HG := Lib.hid hg
  have HS := Lib.hid hs
  have HP := Lib.hid (pagesN_short hs (fun p hp => (hg p hp).num))
  have hl40 := hs.pages
  have hcl := hl.2.1
  have hcm := hl.2.2.1
  unfold maxLen at hcm
  have BA := @ba_append
  clear hl hg hs
  go_enter Tryd.func15, Tryd.ntmps15
  go_wp2_with fail
  go_loopw [3, 4] (fun v3 v4 wr => ∃ (k : Nat), k ≤ l.length ∧ v4 = .int .i64 k ∧ v3 = sv (pagesN l k) ∧ Kp w wr) (fun _ v4 _ => l.length - (intOf v4).toNat)
  case atStart => exact ⟨0, Nat.zero_le _, rfl, rfl, (by (repeat (first | with_reducible assumption | with_reducible exact Kp.refl _ | with_reducible refine Kp.drew ?_ | with_reducible refine Kp.drewN ?_ _ | with_reducible refine Kp.alloc ?_ _ | ((with_reducible refine Kp.setCell ?_ ?_ _); rotate_left; (focus (first | omega | (simp; done) | (simp; omega)))) | with_reducible refine Kp.trans ?_ (by assumption))))⟩
  case round =>
    obtain ⟨k, hk, rfl, rfl, xk⟩ := hrel
    obtain ⟨T, hTe⟩ : ∃ T, pagesN l k = T := ⟨_, rfl⟩
    rw [hTe]
    by_cases hlt : k < l.length
    · have hT := HP.out k hk
      obtain ⟨x, hx⟩ : ∃ x, l[k]? = some x := ⟨l[k]'hlt, List.getElem?_eq_getElem _⟩
      have hsn := pagesN_succ hx
      have hmem := List.mem_of_getElem? hx
      have hgx := HG.out x hmem
      have hnum := hgx.num
      have hH := pageH_short k (by omega) x hnum
      have hlan := HS.out.lanes x hmem
      have hput := HS.out.puts x hmem
      rw [hTe] at hT hsn
      have tl := HL.out.kp xk
      rcases tl.2.2.2 with e | ⟨ga, oa, rfl, hga, r1⟩
      · rw [e] at hlt; simp at hlt
      obtain ⟨⟨la, ll, lc, ls⟩, pt, pf, pl⟩ := x
      have R1 : Hid (∀ wq, Kp w wq → RowAt wq 4 Page.cells ga oa l) := Lib.hid (fun wq kq => by
        rcases (HL.out.kp kq).2.2.2 with e | ⟨ga', oa', hh, _, r⟩
        · rw [e] at hlt; simp at hlt
        · cases hh; exact r)
      have HGA : Hid (∀ wq, Kp w wq → ga < wq.heap.size) := Lib.hid (fun wq kq => by
        rcases (HL.out.kp kq).2.2.2 with e | ⟨ga', oa', hh, h', _⟩
        · rw [e] at hlt; simp at hlt
        · cases hh; exact h')
      have d1 := r1 k _ hx 1 _ rfl
      have d2 := r1 k _ hx 2 _ rfl
      have d3 := r1 k _ hx 3 _ rfl
      have j1 : decide ((k : Int) < (l.length : Int)) = true := decide_eq_true (by omega)
      have HSN := Lib.hid hsn
      have HGX := Lib.hid hgx
      have HX := Lib.hid hx
      have HI : Hid (∀ x, x ∈ [(k : Int), pt, pf, pl] → I64 x) := Lib.hid (by
        obtain ⟨p1, p2, p3, _⟩ := hnum
        simp only at p1 p2 p3
        intro x hx
        simp only [List.mem_cons, List.not_mem_nil, or_false] at hx
        rcases hx with rfl | rfl | rfl | rfl
        · unfold I64; omega
        · assumption
        · assumption
        · assumption)
      obtain ⟨L1, hL1⟩ : ∃ L1, lineL [112, 97, 103, 101] [(k : Int), pt, pf, pl] = L1 := ⟨_, rfl⟩
      have hH1 : pageH k ⟨⟨la, ll, lc, ls⟩, pt, pf, pl⟩ = L1 ++ [10] := by unfold pageH; rw [← hL1]
      rw [hH1, List.length_append, List.length_singleton] at hH
      have hc1 : ¬ 9223372036854775807 < T.length + L1.length := by omega
      have hc2 : ¬ 9223372036854775807 < T.length + L1.length + 1 := by omega
      have hc3 : ¬ 9223372036854775807 < T.length + (L1.length + 1) := by omega
      have C1 : Hid (∀ (b : Nat) (w' : World), SlOk w' 1 enc1 (some ⟨b, 0, none⟩) 4 4 [(k : Int), pt, pf, pl] → Calls Tryd.prog 36 #[sv [112, 97, 103, 101], .slice (some ⟨b, 0, none⟩) 4 4] w' fun e w'' => e = .returned (sv L1) ∧ Kp w' w'') := Lib.hid (fun b w' h => by
        rw [← hL1]; exact refLine_any _ _ _ _ w' h HI.out (by simp) (by simp))
      have HH1 := Lib.hid hH1
      clear tl r1 hx hsn hgx hTe hL1 hH1
      go_wp2_with fail
      (refine wp_region_held_drew (S := (fun w' => (∀ b o, b < wr.heap.size → w'.cell? ⟨b, o, none⟩ = wr.cell? ⟨b, o, none⟩) ∧ Kp wr w')) (by kernel_rfl) ?_ (fun hHd => ?_); (focus ((try dsimp only); (first | with_reducible assumption | with_reducible exact held_start _ | with_reducible exact held_next (by assumption) (by assumption) | with_reducible exact held_alloc (by assumption) _ | with_reducible exact held_drew (by assumption) | ((with_reducible refine held_kp ?_); (repeat (first | with_reducible assumption | with_reducible exact Kp.refl _ | with_reducible refine Kp.drew ?_ | with_reducible refine Kp.drewN ?_ _ | with_reducible refine Kp.alloc ?_ _ | ((with_reducible refine Kp.setCell ?_ ?_ _); rotate_left; (focus (first | omega | (simp; done) | (simp; omega)))) | with_reducible refine Kp.trans ?_ (by assumption))))))))
      (refine takeH (i := 0) (oi := ?o1) (v := ?v1) ?h1 (by kernel_rfl) ?q1 (Or.inl ⟨?w1, ?y1⟩) (by assumption) ?r1; (case h1 => ((simp only [g1, g3]); rfl)); (case q1 => exact fun _ _ _ h => h); (case w1 => rfl); (case y1 => (intro w' hSw; (try dsimp only at hSw); go_simp; (try with_reducible rfl))); (try simp only [Act.put, s1, s2, s3]))
      (refine takeH (i := 1) (oi := ?o2) (v := ?v2) ?h2 (by kernel_rfl) ?q2 (Or.inl ⟨?w2, ?y2⟩) (by assumption) ?r2; (case h2 => ((simp only [g1, g2, g3]); rfl)); (case q2 => exact fun _ _ _ h => h); (case w2 => rfl); (case y2 => (intro w' hSw; (try dsimp only at hSw); go_simp; (try with_reducible rfl))); (try simp only [Act.put, s1, s2, s3]))
      (refine takeH (i := 2) (oi := ?o3) (v := ?v3) ?h3 (by kernel_rfl) ?q3 (Or.inl ⟨?w3, ?y3⟩) (by assumption) ?r3; (case h3 => ((simp only [g1, g2, g3]); rfl)); (case q3 => exact fun _ _ _ h => h); (case w3 => rfl); (case y3 => (intro w' hSw; (try dsimp only at hSw); go_simp; (try with_reducible rfl))); (try simp only [Act.put, s1, s2, s3]))
      (refine takeH (i := 3) (oi := ?o4) (v := ?v4) ?h4 (by kernel_rfl) ?q4 (Or.inl ⟨?w4, ?y4⟩) (by assumption) ?r4; (case h4 => ((simp only [g1, g2, g3]); rfl)); (case q4 => exact fun _ _ _ h => h); (case w4 => rfl); (case y4 => (intro w' hSw; (try dsimp only at hSw); go_simp; (try with_reducible rfl))); (try simp only [Act.put, s1, s2, s3]))
      (refine takeH (i := 4) (oi := ?o5) (v := ?v5) ?h5 (by kernel_rfl) ?q5 (Or.inl ⟨?w5, ?y5⟩) (by assumption) ?r5; (case h5 => ((simp only [g1, g2, g3]); rfl)); (case q5 => exact fun _ _ _ h => h); (case w5 => rfl); (case y5 => (intro w' hSw; (try dsimp only at hSw); go_simp; (try with_reducible rfl))); (try simp only [Act.put, s1, s2, s3]))
      (refine takeH (i := 5) (oi := ?o6) (v := ?v6) ?h6 (by kernel_rfl) ?q6 (Or.inl ⟨?w6, ?y6⟩) (by assumption) ?r6; (case h6 => ((simp only [g1, g2, g3]); rfl)); (case q6 => exact fun _ _ _ h => h); (case w6 => rfl); (case y6 => (intro w' hSw; (try dsimp only at hSw); go_simp; (try with_reducible rfl))); (try simp only [Act.put, s1, s2, s3]))
      (refine takeH (i := 6) (oi := ?o7) (v := ?v7) ?h7 (by kernel_rfl) ?q7 (Or.inl ⟨?w7, ?y7⟩) (by assumption) ?r7; (case h7 => ((simp only [g1, g2, g3]); rfl)); (case q7 => exact fun _ _ _ h => h); (case w7 => rfl); (case y7 => (intro w' hSw; (try dsimp only at hSw); go_simp; (try with_reducible rfl))); (try simp only [Act.put, s1, s2, s3]))
      (refine takeH (i := 7) (oi := ?o8) (v := ?v8) ?h8 (by kernel_rfl) ?q8 (Or.inl ⟨?w8, ?y8⟩) (by assumption) ?r8; (case h8 => ((simp only [g1, g2, g3]); rfl)); (case q8 => exact fun _ _ _ h => h); (case w8 => rfl); (case y8 => (intro w' hSw; (try dsimp only at hSw); go_simp; (try with_reducible rfl))); (try simp only [Act.put, s1, s2, s3]))
      (refine takeH (i := 8) (oi := ?o9) (v := ?v9) ?h9 (by kernel_rfl) ?q9 (Or.inl ⟨?w9, ?y9⟩) (by assumption) ?r9; (case h9 => ((simp only [g1, g2, g3]); rfl)); (case q9 => exact fun _ _ _ h => h); (case w9 => rfl); (case y9 => (intro w' hSw; (try dsimp only at hSw); go_simp; (try with_reducible rfl))); (try simp only [Act.put, s1, s2, s3]))
      (refine takeH (i := 9) (oi := ?o10) (v := ?v10) ?h10 (by kernel_rfl) ?q10 (Or.inl ⟨?w10, ?y10⟩) (by assumption) ?r10; (case h10 => ((simp only [g1, g2, g3]); rfl)); (case q10 => exact fun _ _ _ h => h); (case w10 => rfl); (case y10 => (intro w' hSw; (try dsimp only at hSw); go_simp; (try with_reducible rfl))); (try simp only [Act.put, s1, s2, s3]))
      (refine takeH (i := 10) (oi := ?o11) (v := ?v11) ?h11 (by kernel_rfl) ?q11 (Or.inl ⟨?w11, ?y11⟩) (by assumption) ?r11; (case h11 => ((simp only [g1, g2, g3]); rfl)); (case q11 => exact fun _ _ _ h => h); (case w11 => rfl); (case y11 => (intro w' hSw; (try dsimp only at hSw); go_simp; (try with_reducible rfl))); (try simp only [Act.put, s1, s2, s3]))
      (refine takeH (i := 11) (oi := ?o12) (v := ?v12) ?h12 (by kernel_rfl) ?q12 (Or.inl ⟨?w12, ?y12⟩) (by assumption) ?r12; (case h12 => ((simp only [g1, g2, g3]); rfl)); (case q12 => exact fun _ _ _ h => h); (case w12 => rfl); (case y12 => (intro w' hSw; (try dsimp only at hSw); go_simp; (try with_reducible rfl))); (try simp only [Act.put, s1, s2, s3]))
      (refine takeH (i := 12) (oi := ?o13) (v := ?v13) ?h13 (by kernel_rfl) ?q13 (Or.inl ⟨?w13, ?y13⟩) (by assumption) ?r13; (case h13 => ((simp only [g1, g2, g3]); rfl)); (case q13 => exact fun _ _ _ h => h); (case w13 => rfl); (case y13 => (intro w' hSw; (try dsimp only at hSw); go_simp; (try with_reducible rfl))); (try simp only [Act.put, s1, s2, s3]))
      (refine takeH (i := 13) (oi := ?o14) (v := ?v14) ?h14 (by kernel_rfl) ?q14 (Or.inl ⟨?w14, ?y14⟩) (by assumption) ?r14; (case h14 => ((simp only [g1, g2, g3]); rfl)); (case q14 => exact fun _ _ _ h => h); (case w14 => rfl); (case y14 => (intro w' hSw; (try dsimp only at hSw); go_simp; (try with_reducible rfl))); (try simp only [Act.put, s1, s2, s3]))
      (refine takeH (i := 14) (oi := ?o15) (v := ?v15) ?h15 (by kernel_rfl) ?q15 (Or.inl ⟨?w15, ?y15⟩) (by assumption) ?r15; (case h15 => ((simp only [g1, g2, g3]); rfl)); (case q15 => exact fun _ _ _ h => h); (case w15 => rfl); (case y15 => (intro w' hSw; (try dsimp only at hSw); go_simp; (try with_reducible rfl))); (try simp only [Act.put, s1, s2, s3]))
      (refine takeH (i := 15) (oi := ?o16) (v := ?v16) ?h16 (by kernel_rfl) ?q16 (Or.inl ⟨?w16, ?y16⟩) (by assumption) ?r16; (case h16 => ((simp only [g1, g2, g3]); rfl)); (case q16 => exact fun _ _ _ h => h); (case w16 => rfl); (case y16 => (intro w' hSw; (try dsimp only at hSw); go_simp; (try with_reducible rfl))); (try simp only [Act.put, s1, s2, s3]))
      (refine takeH (i := 16) (oi := ?o17) (v := ?v17) ?h17 (by kernel_rfl) ?q17 (Or.inl ⟨?w17, ?y17⟩) (by assumption) ?r17; (case h17 => ((simp only [g1, g2, g3]); rfl)); (case q17 => exact fun _ _ _ h => h); (case w17 => rfl); (case y17 => (intro w' hSw; (try dsimp only at hSw); go_simp; (try with_reducible rfl))); (try simp only [Act.put, s1, s2, s3]))
      (refine wpAnyH_ready (rs := [17]) (by kernel_rfl) (by simp) ?_; refine AllReadyH.cons (o := ?o18) ?h18 (fun K hK => ?s18) AllReadyH.nil; (case h18 => (first | ((simp only [g1, g2, g3]); rfl) | rfl)); go_simp; (try dsimp only); refine hK.out _ _ ?_ (fun hHd => ?_); (focus ((try dsimp only); (first | with_reducible assumption | with_reducible exact held_start _ | with_reducible exact held_next (by assumption) (by assumption) | with_reducible exact held_alloc (by assumption) _ | with_reducible exact held_drew (by assumption) | ((with_reducible refine held_kp ?_); (repeat (first | with_reducible assumption | with_reducible exact Kp.refl _ | with_reducible refine Kp.drew ?_ | with_reducible refine Kp.drewN ?_ _ | with_reducible refine Kp.alloc ?_ _ | ((with_reducible refine Kp.setCell ?_ ?_ _); rotate_left; (focus (first | omega | (simp; done) | (simp; omega)))) | with_reducible refine Kp.trans ?_ (by assumption))))))); clear hK K; (try simp only [Act.put, s1, s2, s3]))
      (refine wpAnyH_ready (rs := [18]) (by kernel_rfl) (by simp) ?_; refine AllReadyH.cons (o := ?o19) ?h19 (fun K hK => ?s19) AllReadyH.nil; (case h19 => (first | ((simp only [g1, g2, g3]); rfl) | rfl)); go_simp; (first | (go_at_call 36; refine (C1.out _ _ (sl_blk (l := [(k : Int), pt, pf, pl]) (t := 2) (by (repeat (first | with_reducible assumption | ((with_reducible refine Blk.newL ?_ ?_); (focus (first | (simp; done) | omega)); rfl) | with_reducible refine Blk.drew ?_ | with_reducible refine Blk.drewN ?_ _ | with_reducible refine Blk.alloc ?_ _ | ((with_reducible refine Blk.other ?_ ?_ _); rotate_left; (focus (first | with_reducible assumption | omega | (simp; done) | (simp; omega))))))) (by simp))).mono ?_; rintro e w3 ⟨rfl, kk⟩)); (try dsimp only); refine hK.out _ _ ?_ (fun hHd => ?_); (focus ((try dsimp only); (first | with_reducible assumption | with_reducible exact held_next (by assumption) (by assumption) | with_reducible exact held_alloc (by assumption) _))); clear hK K; (try simp only [Act.put, s1, s2, s3]))
      (refine takeH (i := 19) (oi := ?o20) (v := ?v20) ?h20 (by kernel_rfl) ?q20 (Or.inl ⟨?w20, ?y20⟩) (by assumption) ?r20; (case h20 => ((simp only [g1, g2, g3]); rfl)); (case q20 => exact fun _ _ _ h => h); (case w20 => rfl); (case y20 => (intro w' hSw; (try dsimp only at hSw); go_simp; (try with_reducible rfl))); (try simp only [Act.put, s1, s2, s3]))
      (refine takeH (i := 20) (oi := ?o21) (v := ?v21) ?h21 (by kernel_rfl) ?q21 (Or.inl ⟨?w21, ?y21⟩) (by assumption) ?r21; (case h21 => ((simp only [g1, g2, g3]); rfl)); (case q21 => exact fun _ _ _ h => h); (case w21 => rfl); (case y21 => (intro w' hSw; (try dsimp only at hSw); go_simp; (try with_reducible rfl))); (try simp only [Act.put, s1, s2, s3]))
      (refine takeH (i := 21) (oi := ?o22) (v := ?v22) ?h22 (by kernel_rfl) ?q22 (Or.inl ⟨?w22, ?y22⟩) (by assumption) ?r22; (case h22 => ((simp only [g1, g2, g3]); rfl)); (case q22 => exact fun _ _ _ h => h); (case w22 => rfl); (case y22 => (intro w' hSw; (try dsimp only at hSw); go_simp; (try with_reducible rfl))); (try simp only [Act.put, s1, s2, s3]))
      refine wpAnyH_done (by kernel_rfl) ?_ _
      have kw3 : Kp w w3 := (by (repeat (first | with_reducible assumption | with_reducible exact Kp.refl _ | with_reducible refine Kp.drew ?_ | with_reducible refine Kp.drewN ?_ _ | with_reducible refine Kp.alloc ?_ _ | ((with_reducible refine Kp.setCell ?_ ?_ _); rotate_left; (focus (first | omega | (simp; done) | (simp; omega)))) | with_reducible refine Kp.trans ?_ (by assumption))))
      obtain ⟨T2, hT2⟩ : ∃ T2, T ++ (L1 ++ [10]) = T2 := ⟨_, rfl⟩
      have hT2l : T2.length ≤ 5427900300100 := by rw [← hT2, List.length_append, List.length_append, List.length_singleton]; omega
      rw [hT2]
      go_wp2_with fail
      go_loopw [3, 5] (fun v3 v5 wr' => ∃ (m : Nat), m ≤ ls.length ∧ v5 = .int .i64 m ∧ v3 = sv (T2 ++ (ls.take m).flatMap laneL) ∧ Kp w wr') (fun _ v5 _ => ls.length - (intOf v5).toNat)
      case atStart => exact ⟨0, Nat.zero_le _, rfl, by simp, kw3⟩
      case round =>
        clear d1 d2 d3 hc1 hc2 hc3 hH kw3
        obtain ⟨m, hm, rfl, rfl, yk⟩ := hrel
        have d0 := R1.out wr yk k _ HX.out 0 _ rfl
        simp only [Nat.add_zero] at d0
        have hF := flat_bound (C := 603100) (f := laneL) (l := ls.take m) fun z hz => laneL_short z (hnum.2.2.2 z (List.mem_of_mem_take hz)) (hput z (List.mem_of_mem_take hz))
        have hF2 : ((ls.take m).flatMap laneL).length ≤ 1809300000 := by
          rw [List.length_take] at hF
          (try simp only at hlan)
          have : min m ls.length ≤ 3000 := by omega
          omega
        clear hF
        obtain ⟨T3, hT3⟩ : ∃ T3, T2 ++ (ls.take m).flatMap laneL = T3 := ⟨_, rfl⟩
        have hT3l : T3.length ≤ 5500000000000 := by rw [← hT3, List.length_append]; omega
        rw [hT3]
        have hsl := HGX.out.2.2.2.1.kp yk
        simp only at hsl
        have hlen3 := hsl.1
        subst hlen3
        by_cases hlt2 : m < ls.length
        · obtain ⟨y, hy⟩ : ∃ y, ls[m]? = some y := ⟨ls[m]'hlt2, List.getElem?_eq_getElem _⟩
          have hymem := List.mem_of_getElem? hy
          have hs3 := flat_snoc (f := laneL) hy
          have hgy := HGX.out.2.2.2.2 y hymem
          have hny := hnum.2.2.2 y hymem
          have hyp := hput y hymem
          have hLH := laneH_short y hny
          rcases hsl.2.2.2 with e | ⟨gb, ob, rfl, hgb, r2⟩
          · rw [e] at hlt2; simp at hlt2
          have R2 : Hid (∀ wq, Kp w wq → RowAt wq 2 Lane.cells gb ob ls) := Lib.hid (fun wq kq => by
            rcases (HGX.out.2.2.2.1.kp kq).2.2.2 with e | ⟨ga', oa', hh, _, r⟩
            · simp only at e; rw [e] at hlt2; simp at hlt2
            · cases hh; exact r)
          obtain ⟨yx, ⟨qa, ql, qc, qs⟩⟩ := y
          have f0 := r2 m _ hy 0 _ rfl
          simp only [Nat.add_zero] at f0
          have j2 : decide ((m : Int) < (ls.length : Int)) = true := decide_eq_true (by omega)
          have HS3 := Lib.hid hs3
          have HGY := Lib.hid hgy
          have HY := Lib.hid hy
          have HI2 : Hid (∀ x, x ∈ [yx] → I64 x) := Lib.hid (by
            intro x hx
            simp only [List.mem_cons, List.not_mem_nil, or_false] at hx
            subst hx
            exact hny.1)
          obtain ⟨L2, hL2⟩ : ∃ L2, lineL [108, 97, 110, 101] [yx] = L2 := ⟨_, rfl⟩
          have hH2 : laneH ⟨yx, ⟨qa, ql, qc, qs⟩⟩ = L2 ++ [10] := by unfold laneH; rw [← hL2]
          rw [hH2, List.length_append, List.length_singleton] at hLH
          have hc1 : ¬ 9223372036854775807 < T3.length + L2.length := by omega
          have hc2 : ¬ 9223372036854775807 < T3.length + L2.length + 1 := by omega
          have hc3 : ¬ 9223372036854775807 < T3.length + (L2.length + 1) := by omega
          have C2 : Hid (∀ (b : Nat) (w' : World), SlOk w' 1 enc1 (some ⟨b, 0, none⟩) 1 1 [yx] → Calls Tryd.prog 36 #[sv [108, 97, 110, 101], .slice (some ⟨b, 0, none⟩) 1 1] w' fun e w'' => e = .returned (sv L2) ∧ Kp w' w'') := Lib.hid (fun b w' h => by
            rw [← hL2]; exact refLine_any _ _ _ _ w' h HI2.out (by simp) (by simp))
          have HH2 := Lib.hid hH2
          clear hsl r2 hy hs3 hgy hL2 hH2
          go_wp2_with fail
          refine (C2.out _ _ (sl_blk (l := [yx]) (t := 2) (by (repeat (first | with_reducible assumption | ((with_reducible refine Blk.newL ?_ ?_); (focus (first | (simp; done) | omega)); rfl) | with_reducible refine Blk.drew ?_ | with_reducible refine Blk.drewN ?_ _ | with_reducible refine Blk.alloc ?_ _ | ((with_reducible refine Blk.other ?_ ?_ _); rotate_left; (focus (first | with_reducible assumption | omega | (simp; done) | (simp; omega))))))) (by simp))).mono ?_
          rintro e w4 ⟨rfl, k4⟩
          have kw4 : Kp w w4 := Kp.trans (by (repeat (first | with_reducible assumption | with_reducible exact Kp.refl _ | with_reducible refine Kp.drew ?_ | with_reducible refine Kp.drewN ?_ _ | with_reducible refine Kp.alloc ?_ _ | ((with_reducible refine Kp.setCell ?_ ?_ _); rotate_left; (focus (first | omega | (simp; done) | (simp; omega)))) | with_reducible refine Kp.trans ?_ (by assumption)))) k4
          clear k4
          obtain ⟨T4, hT4⟩ : ∃ T4, T3 ++ (L2 ++ [10]) = T4 := ⟨_, rfl⟩
          have hT4l : T4.length ≤ 5500000000100 := by rw [← hT4, List.length_append, List.length_append, List.length_singleton]; omega
          have hT4b : T3 ++ L2 ++ [10] = T4 := by rw [List.append_assoc]; exact hT4
          have HT4 := Lib.hid hT4
          clear hLH
          go_wp2_with fail
          clear hT4 hT4b
          go_loopw [3, 6] (fun v3 v6 wr' => ∃ (q : Nat), q ≤ qs.length ∧ v6 = .int .i64 q ∧ v3 = sv (T4 ++ (qs.take q).flatMap putN) ∧ Kp w wr') (fun _ v6 _ => qs.length - (intOf v6).toNat)
          case atStart => exact ⟨0, Nat.zero_le _, rfl, by simp, kw4⟩
          case round =>
            clear d0 f0 hc1 hc2 hc3 kw4
            obtain ⟨q, hq, rfl, rfl, zk⟩ := hrel
            have d0 := R1.out wr zk k _ HX.out 0 _ rfl
            have f1 := R2.out wr zk m _ HY.out 1 _ rfl
            simp only [Nat.add_zero] at d0 f1
            have hF := flat_bound (C := 201) (f := putN) (l := qs.take q) fun z hz => putN_short z (hny.2 z (List.mem_of_mem_take hz))
            have hF3 : ((qs.take q).flatMap putN).length ≤ 603000 := by
              rw [List.length_take] at hF
              (try simp only at hyp)
              have : min q qs.length ≤ 3000 := by omega
              omega
            clear hF
            obtain ⟨T5, hT5⟩ : ∃ T5, T4 ++ (qs.take q).flatMap putN = T5 := ⟨_, rfl⟩
            have hT5l : T5.length ≤ 5600000000000 := by rw [← hT5, List.length_append]; omega
            rw [hT5]
            have hzl := HGY.out.2.1.kp zk
            simp only at hzl
            have hlen4 := hzl.1
            subst hlen4
            by_cases hlt3 : q < qs.length
            · obtain ⟨z, hz⟩ : ∃ z, qs[q]? = some z := ⟨qs[q]'hlt3, List.getElem?_eq_getElem _⟩
              have hzmem := List.mem_of_getElem? hz
              have hs5 := flat_snoc (f := putN) hz
              have hzok := hny.2 z hzmem
              have hzs := putL_short z hzok
              rcases hzl.2.2.2 with e | ⟨gc, oc, rfl, hgc, r3⟩
              · rw [e] at hlt3; simp at hlt3
              have PP := Lib.hid (refPut_any z hzok)
              obtain ⟨z0, z1, z2, z3, z4⟩ := z
              have e0 := r3 q _ hz 0 _ rfl
              have e1 := r3 q _ hz 1 _ rfl
              have e2 := r3 q _ hz 2 _ rfl
              have e3 := r3 q _ hz 3 _ rfl
              have e4 := r3 q _ hz 4 _ rfl
              simp only [Nat.add_zero] at e0 e1 e2 e3 e4
              have j3 : decide ((q : Int) < (qs.length : Int)) = true := decide_eq_true (by omega)
              have HS5 := Lib.hid hs5
              obtain ⟨U, hU⟩ : ∃ U, putL ⟨z0, z1, z2, z3, z4⟩ = U := ⟨_, rfl⟩
              have HU : Hid (putN ⟨z0, z1, z2, z3, z4⟩ = U ++ [10]) := Lib.hid (by unfold putN; rw [hU])
              rw [hU] at PP hzs
              simp only at PP
              have hc1 : ¬ 9223372036854775807 < T5.length + U.length := by omega
              have hc2 : ¬ 9223372036854775807 < T5.length + U.length + 1 := by omega
              have hc3 : ¬ 9223372036854775807 < T5.length + (U.length + 1) := by omega
              clear hzl r3 hz hs5 hzok
              go_wp2_with fail
              refine (PP.out _).mono ?_
              rintro e w5 ⟨rfl, k5⟩
              have zk2 := zk.trans k5
              clear k5
              go_wp2_with fail
              go_roundw
              case rel => exact ⟨q + 1, by omega, by go_num, by rw [HS5.out, HU.out, ← hT5]; simp [List.append_assoc], zk2⟩
              case measure => simp [intOf]; omega
            · obtain rfl : q = qs.length := by omega
              have j3 : decide ((qs.length : Int) < (qs.length : Int)) = false := decide_eq_false (by omega)
              rw [List.take_length] at hT5
              have hend : T2 ++ (ls.take (m + 1)).flatMap laneL = T5 := by
                rw [HS3.out, ← List.append_assoc, hT3]
                unfold laneL
                rw [HH2.out, ← List.append_assoc, HT4.out]; exact hT5
              have HEND := Lib.hid hend
              clear hend hzl
              go_wp2_with fail
              go_roundw
              case rel => exact ⟨m + 1, by omega, by go_num, by rw [HEND.out], zk⟩
              case measure => simp [intOf]; omega
        · obtain rfl : m = ls.length := by omega
          have j2 : decide ((ls.length : Int) < (ls.length : Int)) = false := decide_eq_false (by omega)
          rw [List.take_length] at hT3
          have hend : pagesN l (k + 1) = T3 := by
            rw [HSN.out]
            unfold pageL
            rw [HH1.out, ← List.append_assoc, hT2]; exact hT3
          have HEND := Lib.hid hend
          clear hend hsl
          go_wp2_with fail
          go_roundw
          case rel => exact ⟨k + 1, by omega, by go_num, by rw [HEND.out], yk⟩
          case measure => simp [intOf]; omega
    · obtain rfl : k = l.length := by omega
      have j1 : decide ((l.length : Int) < (l.length : Int)) = false := decide_eq_false (by omega)
      go_wp2_with fail
      (try go_ret)
      exact ⟨by rw [hTe]; rfl, xk⟩
end Go.Proofs.YteadhacoglcbfaaDoor
