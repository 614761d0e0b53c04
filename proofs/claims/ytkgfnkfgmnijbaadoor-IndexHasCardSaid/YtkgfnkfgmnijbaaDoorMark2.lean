/- Marks: append of a row to a row; Page, twice. -/
import Derived.Test.YtkgfnkfgmnijbaaDoorMark1

import Derived.Laws.AppendOwnNone

namespace Go.Proofs.YtkgfnkfgmnijbaaDoor

open Go.ChangeShapes Go.WideShapes Go.ChangeAt Go.RowKit

/-- 'out = append(out, ys...)': a row behind a row. -/
theorem rowAppendO {α : Type} {o : Oper} {a : Act} {w : World} {K : Act → World → Prop} {Q : Exit → Act → World → Prop} (s x : Operand) (t : TypeId)
    (ho : o.op = .call { callee := .builtin .append, args := #[s, x], argTypes := #[t, t] }) {base : Nat} {e : TypeId} {z : Value} {n bytes : Nat} (ht : Tryd.prog.underlying t = some (.slice e))
    (hinfo : (Tryd.prog.info? e).map (fun i => (i.zero, i.size, i.bytes)) = some (some z, n, bytes)) (hzs : z.cells.size = n) (hsz : 0 < n)
    {v : Value} {l : List α} {enc : α → List Value} (hrow : Row w base e n enc v l) (hs : a.eval s = v) {base2 : Nat} {v2 : Value} {l2 : List α} (hrow2 : Row w base2 e n enc v2 l2) (hx : a.eval x = v2)
    (h1 : ∀ y, ∀ u ∈ enc y, u.oneCell' = true) (hlen : l.length + l2.length ≤ maxLen) (hbytes : (l.length + l2.length) * bytes ≤ 140737488355328) (hbase : base ≤ w.heap.size)
    (h : ∀ v' w', Row w' base e n enc v' (l ++ l2) → (∀ {W : World}, W.heap.size ≤ base → Kp W w → Kp W w') → w.heap.size ≤ w'.heap.size → K (a.put o.dst v') w') : o.wp Tryd.prog a w K Q := by
  obtain ⟨i0, hi, hz0, hz1, hz2⟩ := info_parts hinfo
  have hrow2' := hrow2.2
  rcases hrow2' with ⟨hv2, hl2⟩ | ⟨g, cap, cur, hv2, _⟩
  · have hl : l2 = [] := List.eq_nil_of_length_eq_zero hl2
    subst hl
    rw [hv2] at hx
    have hrun := run_append_owned_none (P := Tryd.prog) (w := w) base t o.type e i0 n ht hi v l.length _ hrow
    unfold Oper.wp
    simp [execOp, ho, resolve, invoke, builtin, hs, hx, hrun, Result.andThen]
    exact h v w (by simpa using hrow) (fun _ k => k) (Nat.le_refl _)
  · rw [hv2] at hx
    have hown2 : w.ownsRow base2 e n v2 l2.length (l2.flatMap enc) := hrow2
    refine wp_append_own w s x t ho base e i0 z n bytes ht hi hz0 hz1 hz2 hzs hsz v l.length _ hs hrow ⟨g, 0, none⟩ l2.length cap (l2.flatMap enc) hx hrow2.1 (World.ownsRow.cells hown2 (by rw [hv2]; rfl)) (fun u hu => ?_) hlen hbytes hbase ?_
    · obtain ⟨y, _, hy⟩ := List.mem_flatMap.1 hu
      exact h1 y u hy
    · intro v' w' hown hgrow _
      have hr : ∀ k, v.ownBlock = some k → base ≤ k := fun k hk => (hrow.lt k hk).1
      refine h v' w' ?_ (fun {W} hW kW => Below.grown kW hgrow kW.size (fun k hk => Nat.le_trans hW (hr k hk))) hgrow.size
      unfold Row
      rw [List.length_append, List.flatMap_append]
      exact hown
theorem rowAppendL {α : Type} {ops : Array Oper} {rest : List Oper} {o : Oper} {a : Act} {w : World} {Q : Exit → Act → World → Prop} (hgd : o.guard = none) (s x : Operand) (t : TypeId)
    (ho : o.op = .call { callee := .builtin .append, args := #[s, x], argTypes := #[t, t] }) {base : Nat} {e : TypeId} {z : Value} {n bytes : Nat} (ht : Tryd.prog.underlying t = some (.slice e))
    (hinfo : (Tryd.prog.info? e).map (fun i => (i.zero, i.size, i.bytes)) = some (some z, n, bytes)) (hzs : z.cells.size = n) (hsz : 0 < n)
    {v : Value} {l : List α} {enc : α → List Value} (hrow : Row w base e n enc v l) (hs : a.eval s = v) {base2 : Nat} {v2 : Value} {l2 : List α} (hrow2 : Row w base2 e n enc v2 l2) (hx : a.eval x = v2)
    (h1 : ∀ y, ∀ u ∈ enc y, u.oneCell' = true) (hlen : l.length + l2.length ≤ maxLen) (hbytes : (l.length + l2.length) * bytes ≤ 140737488355328) (hbase : base ≤ w.heap.size)
    (h : ∀ v' w', Row w' base e n enc v' (l ++ l2) → (∀ {W : World}, W.heap.size ≤ base → Kp W w → Kp W w') → w.heap.size ≤ w'.heap.size → wpList Tryd.prog ops Q rest (a.put o.dst v') w') : wpList Tryd.prog ops Q (o :: rest) a w := by
  refine wpList_plain hgd fun K hK => ?_
  exact rowAppendO s x t ho ht hinfo hzs hsz hrow hs hrow2 hx h1 hlen hbytes hbase (fun v' w' h1 h2 h3 => hK _ _ (h v' w' h1 h2 h3))
theorem enc1_one : ∀ y, ∀ u ∈ enc1 y, u.oneCell' = true := fun y u hu => by simp [enc1] at hu; subst hu; rfl

def pageL (l : List Item) (cs : List Col) : List Int := cs.flatMap fun c => if c.k = 1 then inL l c.fr c.til else []
theorem pageL_snoc (l : List Item) (cs : List Col) (c : Col) : pageL l (cs ++ [c]) = if c.k = 1 then pageL l cs ++ inL l c.fr c.til else pageL l cs := by
  unfold pageL
  rw [List.flatMap_append, List.flatMap_cons, List.flatMap_nil, List.append_nil]
  by_cases h : c.k = 1
  · rw [if_pos h, if_pos h]
  · rw [if_neg h, if_neg h, List.append_nil]
theorem pageL_length (l : List Item) (h : l.length ≤ 100) : ∀ cs : List Col, (pageL l cs).length ≤ 100 * cs.length
  | [] => Nat.le_refl _
  | c :: cs => by
    have ih := pageL_length l h cs
    have := inL_length l c.fr c.til
    have e : pageL l (c :: cs) = (if c.k = 1 then inL l c.fr c.til else []) ++ pageL l cs := rfl
    rw [e, List.length_append, List.length_cons]
    split <;> simp_all <;> omega

set_option maxRecDepth 100000 in
set_option maxHeartbeats 2000000 in
theorem page_any (a ca : Option Addr) (cap ccap : Nat) (l : List Item) (cs : List Col) (w : World) (hl : SlOk w 7 Item.cells a l.length cap l) (hc : SlOk w 6 Col.cells ca cs.length ccap cs) (h4 : l.length ≤ 100) (h6 : cs.length ≤ 60) :
    Calls Tryd.prog 26 #[.slice a l.length cap, .slice ca cs.length ccap] w fun e w' => ∃ v, e = .returned v ∧ Row w' w.heap.size 3 1 enc1 v (pageL l cs) ∧ Kp w w' := by
  have hcap := hc.2.1
  have hmx := hc.2.2.1
  unfold maxLen at hmx
  have CI : Hid (∀ (x y : Int) (w' : World), Kp w w' → Calls Tryd.prog 38 #[.slice a l.length cap, .int .i64 x, .int .i64 y] w' fun e w'' => ∃ v, e = .returned v ∧ Row w'' w'.heap.size 3 1 enc1 v (inL l x y) ∧ Kp w' w'') := Lib.hid (fun x y w' k => in_any a cap l x y w' (hl.kp k) (by omega))
  have HC := Lib.hid hc
  have HL := Lib.hid h4
  clear hl hc
  go_enter Tryd.func26, Tryd.ntmps26
  go_wp2
  go_loopw [5, 10] (fun v5 v10 wr => ∃ (k : Nat), k ≤ cs.length ∧ v10 = .int .i64 k ∧ Row wr w.heap.size 3 1 enc1 v5 (pageL l (cs.take k)) ∧ Kp w wr) (fun _ v10 _ => cs.length - (intOf v10).toNat)
  case atStart => exact ⟨0, Nat.zero_le _, rfl, by rw [List.take_zero]; exact Row.nil _ _ _ _ _, (by (repeat (first | with_reducible assumption | with_reducible exact Kp.refl _ | with_reducible refine Kp.drew ?_ | with_reducible refine Kp.drewN ?_ _ | with_reducible refine Kp.alloc ?_ _ | ((with_reducible refine Kp.setCell ?_ ?_ _); rotate_left; (focus (first | omega | (simp; done) | (simp; omega)))) | with_reducible refine Kp.trans ?_ (by assumption))))⟩
  case round =>
    obtain ⟨k, hk, rfl, xr, xk⟩ := hrel
    by_cases hlt : k < cs.length
    · obtain ⟨y', hy⟩ : ∃ y, cs[k]? = some y := ⟨cs[k]'hlt, List.getElem?_eq_getElem _⟩
      have hck := HC.out.kp xk
      have htk : cs.take (k + 1) = cs.take k ++ [y'] := by rw [List.take_add_one, hy]; rfl
      have hms := pageL_snoc l (cs.take k) y'
      rw [← htk] at hms
      have hml := pageL_length l HL.out (cs.take k)
      rw [List.length_take, Nat.min_eq_left (by omega)] at hml
      have hin := inL_length l y'.fr y'.til
      have hml2 : (pageL l (cs.take k)).length + (inL l y'.fr y'.til).length ≤ 10000 := by have := HL.out; omega
      obtain ⟨x0, x1, x2, a3, l3, c3, a4, l4, c4, a5, l5, c5⟩ := y'
      rcases hck.2.2.2 with e | ⟨b, off, rfl, hb, hrow⟩
      · rw [e] at hy; simp at hy
      · have hcc : ∀ c v, (Col.cells ⟨x0, x1, x2, a3, l3, c3, a4, l4, c4, a5, l5, c5⟩)[c]? = some v → wr.cell? ⟨b, off + k * 6 + c, none⟩ = some v := fun c v hv => hrow k _ hy c v hv
        have d0 := hcc 0 _ rfl; have d1 := hcc 1 _ rfl; have d2 := hcc 2 _ rfl; have d3 := hcc 3 _ rfl; have d4 := hcc 4 _ rfl; have d5 := hcc 5 _ rfl
        rw [Nat.add_zero] at d0
        simp only at d0 d1 d2 d3 d4 d5 hms hml2
        have HML := Lib.hid hml2
        have HMS := Lib.hid hms
        clear hcc hrow hy hck htk hms hml hml2 hin
        by_cases h4 : x0 = 1
        · subst h4
          have hms := HMS.out
          rw [if_pos rfl] at hms
          have HM2 := Lib.hid hms
          clear hms HMS
          go_wp2_with fail
          refine (CI.out _ _ _ ((by (repeat (first | with_reducible assumption | with_reducible exact Kp.refl _ | with_reducible refine Kp.drew ?_ | with_reducible refine Kp.drewN ?_ _ | with_reducible refine Kp.alloc ?_ _ | ((with_reducible refine Kp.setCell ?_ ?_ _); rotate_left; (focus (first | omega | (simp; done) | (simp; omega)))) | with_reducible refine Kp.trans ?_ (by assumption)))) : Kp w _)).mono ?_
          rintro e w2 ⟨v2, rfl, xv, k2⟩
          have k3 := ((by (repeat (first | with_reducible assumption | with_reducible exact Kp.refl _ | with_reducible refine Kp.drew ?_ | with_reducible refine Kp.drewN ?_ _ | with_reducible refine Kp.alloc ?_ _ | ((with_reducible refine Kp.setCell ?_ ?_ _); rotate_left; (focus (first | omega | (simp; done) | (simp; omega)))) | with_reducible refine Kp.trans ?_ (by assumption)))) : Kp w _).trans k2
          have xr2 := xr.kp (((by (repeat (first | with_reducible assumption | with_reducible exact Kp.refl _ | with_reducible refine Kp.drew ?_ | with_reducible refine Kp.drewN ?_ _ | with_reducible refine Kp.alloc ?_ _ | ((with_reducible refine Kp.setCell ?_ ?_ _); rotate_left; (focus (first | omega | (simp; done) | (simp; omega)))) | with_reducible refine Kp.trans ?_ (by assumption)))) : Kp wr _).trans k2)
          clear d0 d1 d2 d3 d4 d5 k2
          go_wp2_with (first
            | (refine rowAppendL ?gd (.tmp 17) (.tmp 23) 23 ?ho Tryd.underlying23 infoInt rfl (by decide) xr2 ?hs xv ?hx enc1_one ?hl ?hb k3.size ?_; (case gd => rfl); (case ho => rfl); (case hs => rfl); (case hx => rfl); (case hl => have := HML.out; unfold maxLen; omega); (case hb => have := HML.out; omega))
            | fail)
          intro v' w4 hr4 kp4 sz4
          have k4 := kp4 (Nat.le_refl _) k3
          rw [← HM2.out] at hr4
          go_wp2
          go_roundw
          case rel => exact ⟨k + 1, by omega, by go_num, hr4, k4⟩
          case measure => simp [intOf]; omega
        · have hms := HMS.out
          rw [if_neg h4] at hms
          have HM2 := Lib.hid hms
          have j2 : (x0 == 1) = false := beq_eq_false_iff_ne.2 h4
          clear hms HMS h4
          go_wp2
          go_roundw
          case rel => exact ⟨k + 1, by omega, by go_num, by rw [HM2.out]; exact xr.kp (by (repeat (first | with_reducible assumption | with_reducible exact Kp.refl _ | with_reducible refine Kp.drew ?_ | with_reducible refine Kp.drewN ?_ _ | with_reducible refine Kp.alloc ?_ _ | ((with_reducible refine Kp.setCell ?_ ?_ _); rotate_left; (focus (first | omega | (simp; done) | (simp; omega)))) | with_reducible refine Kp.trans ?_ (by assumption)))), (by (repeat (first | with_reducible assumption | with_reducible exact Kp.refl _ | with_reducible refine Kp.drew ?_ | with_reducible refine Kp.drewN ?_ _ | with_reducible refine Kp.alloc ?_ _ | ((with_reducible refine Kp.setCell ?_ ?_ _); rotate_left; (focus (first | omega | (simp; done) | (simp; omega)))) | with_reducible refine Kp.trans ?_ (by assumption))))⟩
          case measure => simp [intOf]; omega
    · obtain rfl : k = cs.length := by omega
      have j1 : decide ((cs.length : Int) < (cs.length : Int)) = false := decide_eq_false (by omega)
      rw [List.take_length] at xr
      go_wp2
      go_ret
      exact ⟨_, rfl, xr, xk⟩
set_option maxRecDepth 100000 in
set_option maxHeartbeats 2000000 in
theorem refPage_any (a ca : Option Addr) (cap ccap : Nat) (l : List Item) (cs : List Col) (w : World) (hl : SlOk w 7 Item.cells a l.length cap l) (hc : SlOk w 6 Col.cells ca cs.length ccap cs) (h4 : l.length ≤ 100) (h6 : cs.length ≤ 60) :
    Calls Tryd.prog 18 #[.slice a l.length cap, .slice ca cs.length ccap] w fun e w' => ∃ v, e = .returned v ∧ Row w' w.heap.size 3 1 enc1 v (pageL l cs) ∧ Kp w w' := by
  have hcap := hc.2.1
  have hmx := hc.2.2.1
  unfold maxLen at hmx
  have CI : Hid (∀ (x y : Int) (w' : World), Kp w w' → Calls Tryd.prog 33 #[.slice a l.length cap, .int .i64 x, .int .i64 y] w' fun e w'' => ∃ v, e = .returned v ∧ Row w'' w'.heap.size 3 1 enc1 v (inL l x y) ∧ Kp w' w'') := Lib.hid (fun x y w' k => refIn_any a cap l x y w' (hl.kp k) (by omega))
  have HC := Lib.hid hc
  have HL := Lib.hid h4
  clear hl hc
  go_enter Tryd.func18, Tryd.ntmps18
  go_wp2
  go_loopw [5, 6] (fun v5 v6 wr => ∃ (k : Nat), k ≤ cs.length ∧ v6 = .int .i64 k ∧ Row wr w.heap.size 3 1 enc1 v5 (pageL l (cs.take k)) ∧ Kp w wr) (fun _ v6 _ => cs.length - (intOf v6).toNat)
  case atStart => exact ⟨0, Nat.zero_le _, rfl, by rw [List.take_zero]; exact Row.nil _ _ _ _ _, (by (repeat (first | with_reducible assumption | with_reducible exact Kp.refl _ | with_reducible refine Kp.drew ?_ | with_reducible refine Kp.drewN ?_ _ | with_reducible refine Kp.alloc ?_ _ | ((with_reducible refine Kp.setCell ?_ ?_ _); rotate_left; (focus (first | omega | (simp; done) | (simp; omega)))) | with_reducible refine Kp.trans ?_ (by assumption))))⟩
  case round =>
    obtain ⟨k, hk, rfl, xr, xk⟩ := hrel
    by_cases hlt : k < cs.length
    · obtain ⟨y', hy⟩ : ∃ y, cs[k]? = some y := ⟨cs[k]'hlt, List.getElem?_eq_getElem _⟩
      have hck := HC.out
      have htk : cs.take (k + 1) = cs.take k ++ [y'] := by rw [List.take_add_one, hy]; rfl
      have hms := pageL_snoc l (cs.take k) y'
      rw [← htk] at hms
      have hml := pageL_length l HL.out (cs.take k)
      rw [List.length_take, Nat.min_eq_left (by omega)] at hml
      have hin := inL_length l y'.fr y'.til
      have hml2 : (pageL l (cs.take k)).length + (inL l y'.fr y'.til).length ≤ 10000 := by have := HL.out; omega
      obtain ⟨x0, x1, x2, a3, l3, c3, a4, l4, c4, a5, l5, c5⟩ := y'
      rcases hck.2.2.2 with e | ⟨b, off, rfl, hb, hrow⟩
      · rw [e] at hy; simp at hy
      · have hcc : ∀ c v, (Col.cells ⟨x0, x1, x2, a3, l3, c3, a4, l4, c4, a5, l5, c5⟩)[c]? = some v → w.cell? ⟨b, off + k * 6 + c, none⟩ = some v := fun c v hv => hrow k _ hy c v hv
        have d0 := hcc 0 _ rfl; have d1 := hcc 1 _ rfl; have d2 := hcc 2 _ rfl
        rw [Nat.add_zero] at d0
        simp only at d0 d1 d2 hms hml2
        have f0 := (xk.cell (p := ⟨b, off + k * 6, none⟩) hb).trans d0
        have HML := Lib.hid hml2
        have HMS := Lib.hid hms
        have HXR := Lib.hid xr
        clear hcc hrow hy hck htk hms hml hml2 hin xr
        by_cases h4 : x0 = 1
        · subst h4
          have hms := HMS.out
          rw [if_pos rfl] at hms
          have HM2 := Lib.hid hms
          clear hms HMS
          go_wp2_with fail
          (refine wp_region_held_drew (S := (fun w' => (∀ b o, b < w.heap.size → w'.cell? ⟨b, o, none⟩ = w.cell? ⟨b, o, none⟩) ∧ Kp w w')) (by kernel_rfl) ?_ (fun hHd => ?_); (focus ((try dsimp only); (first | with_reducible assumption | with_reducible exact held_start _ | with_reducible exact held_next (by assumption) (by assumption) | with_reducible exact held_alloc (by assumption) _ | with_reducible exact held_drew (by assumption) | ((with_reducible refine held_kp ?_); (repeat (first | with_reducible assumption | with_reducible exact Kp.refl _ | with_reducible refine Kp.drew ?_ | with_reducible refine Kp.drewN ?_ _ | with_reducible refine Kp.alloc ?_ _ | ((with_reducible refine Kp.setCell ?_ ?_ _); rotate_left; (focus (first | omega | (simp; done) | (simp; omega)))) | with_reducible refine Kp.trans ?_ (by assumption))))))))
          (refine takeH (i := 0) (oi := ?o1) (v := ?v1) ?h1 (by kernel_rfl) ?q1 (Or.inl ⟨?w1, ?y1⟩) (by assumption) ?r1; (case h1 => ((simp only [g1, g3]); rfl)); (case q1 => exact fun _ _ _ h => h); (case w1 => rfl); (case y1 => (intro w' hSw; (try dsimp only at hSw); go_simp; (try with_reducible rfl))); (try simp only [Act.put, s1, s2, s3]))
          (refine takeH (i := 1) (oi := ?o2) (v := ?v2) ?h2 (by kernel_rfl) ?q2 (Or.inl ⟨?w2, ?y2⟩) (by assumption) ?r2; (case h2 => ((simp only [g1, g2, g3]); rfl)); (case q2 => exact fun _ _ _ h => h); (case w2 => rfl); (case y2 => (intro w' hSw; (try dsimp only at hSw); go_simp; (try with_reducible rfl))); (try simp only [Act.put, s1, s2, s3]))
          (refine takeH (i := 2) (oi := ?o3) (v := ?v3) ?h3 (by kernel_rfl) ?q3 (Or.inl ⟨?w3, ?y3⟩) (by assumption) ?r3; (case h3 => ((simp only [g1, g2, g3]); rfl)); (case q3 => exact fun _ _ _ h => h); (case w3 => rfl); (case y3 => (intro w' hSw; (try dsimp only at hSw); go_simp; (try with_reducible rfl))); (try simp only [Act.put, s1, s2, s3]))
          (refine takeH (i := 3) (oi := ?o4) (v := ?v4) ?h4 (by kernel_rfl) ?q4 (Or.inl ⟨?w4, ?y4⟩) (by assumption) ?r4; (case h4 => ((simp only [g1, g2, g3]); rfl)); (case q4 => exact fun _ _ _ h => h); (case w4 => rfl); (case y4 => (intro w' hSw; (try dsimp only at hSw); go_simp; (try with_reducible rfl))); (try simp only [Act.put, s1, s2, s3]))
          (refine takeH (i := 4) (oi := ?o5) (v := ?v5) ?h5 (by kernel_rfl) ?q5 (Or.inl ⟨?w5, ?y5⟩) (by assumption) ?r5; (case h5 => ((simp only [g1, g2, g3]); rfl)); (case q5 => exact fun _ _ _ h => h); (case w5 => rfl); (case y5 => (intro w' hSw; (try dsimp only at hSw); go_simp; (try with_reducible rfl))); (try simp only [Act.put, s1, s2, s3]))
          (refine takeH (i := 5) (oi := ?o6) (v := ?v6) ?h6 (by kernel_rfl) ?q6 (Or.inl ⟨?w6, ?y6⟩) (by assumption) ?r6; (case h6 => ((simp only [g1, g2, g3]); rfl)); (case q6 => exact fun _ _ _ h => h); (case w6 => rfl); (case y6 => (intro w' hSw; (try dsimp only at hSw); go_simp; (try with_reducible rfl))); (try simp only [Act.put, s1, s2, s3]))
          (refine takeH (i := 6) (oi := ?o7) (v := ?v7) ?h7 (by kernel_rfl) ?q7 (Or.inl ⟨?w7, ?y7⟩) (by assumption) ?r7; (case h7 => ((simp only [g1, g2, g3]); rfl)); (case q7 => exact fun _ _ _ h => h); (case w7 => rfl); (case y7 => (intro w' hSw; (try dsimp only at hSw); go_simp; (try with_reducible rfl))); (try simp only [Act.put, s1, s2, s3]))
          (refine takeH (i := 7) (oi := ?o8) (v := ?v8) ?h8 (by kernel_rfl) ?q8 (Or.inl ⟨?w8, ?y8⟩) (by assumption) ?r8; (case h8 => ((simp only [g1, g2, g3]); rfl)); (case q8 => exact fun _ _ _ h => h); (case w8 => rfl); (case y8 => (intro w' hSw; (try dsimp only at hSw); go_simp; (try with_reducible rfl))); (try simp only [Act.put, s1, s2, s3]))
          (refine takeH (i := 8) (oi := ?o9) (v := ?v9) ?h9 (by kernel_rfl) ?q9 (Or.inl ⟨?w9, ?y9⟩) (by assumption) ?r9; (case h9 => ((simp only [g1, g2, g3]); rfl)); (case q9 => exact fun _ _ _ h => h); (case w9 => rfl); (case y9 => (intro w' hSw; (try dsimp only at hSw); go_simp; (try with_reducible rfl))); (try simp only [Act.put, s1, s2, s3]))
          (refine takeH (i := 9) (oi := ?o10) (v := ?v10) ?h10 (by kernel_rfl) ?q10 (Or.inl ⟨?w10, ?y10⟩) (by assumption) ?r10; (case h10 => ((simp only [g1, g2, g3]); rfl)); (case q10 => exact fun _ _ _ h => h); (case w10 => rfl); (case y10 => (intro w' hSw; (try dsimp only at hSw); go_simp; (try with_reducible rfl))); (try simp only [Act.put, s1, s2, s3]))
          (refine takeH (i := 10) (oi := ?o11) (v := ?v11) ?h11 (by kernel_rfl) ?q11 (Or.inl ⟨?w11, ?y11⟩) (by assumption) ?r11; (case h11 => ((simp only [g1, g2, g3]); rfl)); (case q11 => exact fun _ _ _ h => h); (case w11 => rfl); (case y11 => (intro w' hSw; (try dsimp only at hSw); go_simp; (try with_reducible rfl))); (try simp only [Act.put, s1, s2, s3]))
          (refine takeH (i := 11) (oi := ?o12) (v := ?v12) ?h12 (by kernel_rfl) ?q12 (Or.inl ⟨?w12, ?y12⟩) (by assumption) ?r12; (case h12 => ((simp only [g1, g2, g3]); rfl)); (case q12 => exact fun _ _ _ h => h); (case w12 => rfl); (case y12 => (intro w' hSw; (try dsimp only at hSw); go_simp; (try with_reducible rfl))); (try simp only [Act.put, s1, s2, s3]))
          (refine wpAnyH_ready (rs := [12]) (by kernel_rfl) (by simp) ?_; refine AllReadyH.cons (o := ?o13) ?h13 (fun K hK => ?s13) AllReadyH.nil; (case h13 => (first | ((simp only [g1, g2, g3]); rfl) | rfl)); go_simp; (first | (go_at_call 33; go_must (refine (CI.out _ _ _ hHd.2).mono ?_); rintro e w5 ⟨v2, rfl, xv, kk⟩)); (try dsimp only); refine hK.out _ _ ?_ (fun hHd => ?_); (focus ((try dsimp only); (first | with_reducible assumption | with_reducible exact held_next (by assumption) (by assumption) | with_reducible exact held_alloc (by assumption) _))); clear hK K; (try simp only [Act.put, s1, s2, s3]))
          (refine wpAnyH_ready (rs := [13]) (by kernel_rfl) (by simp) ?_; refine AllReadyH.cons (o := ?o14) ?h14 (fun K hK => ?s14) AllReadyH.nil; (case h14 => (first | ((simp only [g1, g2, g3]); rfl) | rfl)); refine rowAppendO (.tmp 19) (.tmp 31) 23 ?ho15 Tryd.underlying23 infoInt rfl (by decide) (HXR.out.kp ((by (repeat (first | with_reducible assumption | with_reducible exact Kp.refl _ | with_reducible refine Kp.drew ?_ | with_reducible refine Kp.drewN ?_ _ | with_reducible refine Kp.alloc ?_ _ | ((with_reducible refine Kp.setCell ?_ ?_ _); rotate_left; (focus (first | omega | (simp; done) | (simp; omega)))) | with_reducible refine Kp.trans ?_ (by assumption)))) : Kp wr _)) ?hs15 xv ?hx15 enc1_one ?hl15 ?hb15 hHd.2.size ?_; (case ho15 => rfl); (case hs15 => rfl); (case hx15 => rfl); (case hl15 => have := HML.out; unfold maxLen; omega); (case hb15 => have := HML.out; omega); intro v' w4 hr4 kp4 sz4; refine hK.out _ _ ?_ (fun hHd => ?_); (focus ((try dsimp only); exact held_kp (kp4 (Nat.le_refl _) hHd.2))); clear hK K; (try simp only [Act.put]))
          (refine takeH (i := 14) (oi := ?o16) (v := ?v16) ?h16 (by kernel_rfl) ?q16 (Or.inl ⟨?w16, ?y16⟩) (by assumption) ?r16; (case h16 => ((simp only [g1, g2, g3]); rfl)); (case q16 => exact fun _ _ _ h => h); (case w16 => rfl); (case y16 => (intro w' hSw; (try dsimp only at hSw); go_simp; (try with_reducible rfl))); (try simp only [Act.put, s1, s2, s3]))
          refine wpAnyH_done (by kernel_rfl) ?_ _
          rw [← HM2.out] at hr4
          go_wp2
          go_roundw
          case rel => exact ⟨k + 1, by omega, by go_num, hr4, hHd.2⟩
          case measure => simp [intOf]; omega
        · have hms := HMS.out
          rw [if_neg h4] at hms
          have HM2 := Lib.hid hms
          have j2 : (x0 == 1) = false := beq_eq_false_iff_ne.2 h4
          clear hms HMS h4
          go_wp2
          go_roundw
          case rel => exact ⟨k + 1, by omega, by go_num, by rw [HM2.out]; exact HXR.out, xk⟩
          case measure => simp [intOf]; omega
    · obtain rfl : k = cs.length := by omega
      have j1 : decide ((cs.length : Int) < (cs.length : Int)) = false := decide_eq_false (by omega)
      rw [List.take_length] at xr
      go_wp2
      go_ret
      exact ⟨_, rfl, xr, xk⟩
end Go.Proofs.YtkgfnkfgmnijbaaDoor
