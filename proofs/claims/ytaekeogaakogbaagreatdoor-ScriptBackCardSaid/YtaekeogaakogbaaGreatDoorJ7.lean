/- A script's reader: a note's line. -/
import Derived.Test.YtaekeogaakogbaaGreatDoorJ6

namespace Go.Proofs.YtaekeogaakogbaaGreatDoor

open Go.ChangeShapes Go.WideShapes Go.ChangeAt Go.RowKit Go.Shelf

theorem rowAppendXL {α : Type} {ops : Array Oper} {rest : List Oper} {o : Oper} {a : Act} {w : World} {Q : Exit → Act → World → Prop} (hgd : o.guard = none) (s x : Operand) (t : TypeId)
    (ho : o.op = .call { callee := .builtin .append, args := #[s, x], argTypes := #[t, t] }) {base : Nat} {e : TypeId} {z : Value} {n bytes : Nat} (ht : Tryz.prog.underlying t = some (.slice e))
    (hinfo : (Tryz.prog.info? e).map (fun i => (i.zero, i.size, i.bytes)) = some (some z, n, bytes)) (hzs : z.cells.size = n) (hsz : 0 < n)
    {v : Value} {l : List α} {enc : α → List Value} (hrow : Row w base e n enc v l) (hs : a.eval s = v) {y : α} (hy : (enc y).length = n) (h1 : ∀ u ∈ enc y, u.oneCell' = true) {b : Nat} {t' : TypeId} (hb : Blk w b (enc y) t')
    (hx : a.eval x = .slice (some ⟨b, 0, none⟩) 1 1) (hlen : l.length + 1 ≤ maxLen) (hbytes : (l.length + 1) * bytes ≤ 140737488355328) (hbase : base ≤ w.heap.size)
    (h : ∀ v' w', Row w' base e n enc v' (l ++ [y]) → w.grownBy w' v.ownBlock → (v'.ownBlock = v.ownBlock ∨ v'.ownBlock = some w.heap.size) → wpList Tryz.prog ops Q rest (a.put o.dst v') w') : wpList Tryz.prog ops Q (o :: rest) a w :=
  wpList_plain hgd fun _ hK => rowAppendX s x t ho ht hinfo hzs hsz hrow hs hy h1 hb hx hlen hbytes hbase fun v' w' p1 p2 p3 => hK _ _ (h v' w' p1 p2 p3)
theorem evens_snoc : ∀ (l : List Int) (x : Int), (l.length % 2 = 0 → evens (l ++ [x]) = evens l ++ [x] ∧ odds (l ++ [x]) = odds l) ∧ (l.length % 2 = 1 → evens (l ++ [x]) = evens l ∧ odds (l ++ [x]) = odds l ++ [x])
  | [], x => ⟨fun _ => ⟨rfl, rfl⟩, (fun h => by cases h)⟩
  | [a], x => ⟨(fun h => by cases h), fun _ => ⟨rfl, rfl⟩⟩
  | a :: b :: r, x => by
    obtain ⟨h1, h2⟩ := evens_snoc r x
    simp only [List.length_cons, List.cons_append]
    unfold evens odds
    refine ⟨fun h => ?_, fun h => ?_⟩
    · obtain ⟨e1, e2⟩ := h1 (by omega)
      rw [e1, e2]; exact ⟨rfl, rfl⟩
    · obtain ⟨e1, e2⟩ := h2 (by omega)
      rw [e1, e2]; exact ⟨rfl, rfl⟩
theorem evens_len : ∀ (l : List Int), (evens l).length ≤ l.length ∧ (odds l).length ≤ l.length
  | [] => ⟨Nat.le_refl _, Nat.le_refl _⟩
  | [a] => ⟨Nat.le_refl _, Nat.zero_le _⟩
  | a :: b :: r => by
    obtain ⟨h1, h2⟩ := evens_len r
    unfold evens odds
    simp only [List.length_cons]
    omega
theorem numOne (x : Int) : ∀ u ∈ enc1 x, u.oneCell' = true := fun u hu => by
  simp only [enc1, List.mem_cons, List.not_mem_nil, or_false] at hu
  rw [hu]; rfl
set_option maxRecDepth 100000 in
set_option maxHeartbeats 8000000 in
theorem verb_note (W : World) (R : Nat) (j : JobD) (next : Nat) (B : Nat) (a : Option Addr) (c : Nat) (ns : List Int) (w1 : World) (k1 : Kp W w1) (hWR : W.heap.size ≤ R) (h : Rdr w1 R W.heap.size j next) (hgl : j.g.length = 18) (hl : j.items.length ≤ 1000000) (hfl : j.notes.length ≤ 1000000) (hn0 : 0 < ns.length) (hn1 : ns.length ≤ 10000) (hr : Row w1 B 2 1 enc1 (.slice a ns.length c) ns) :
    Calls Tryz.prog 63 #[.pointer (some ⟨R, 0, none⟩), .slice a ns.length c] w1 fun e w2 => e = .returned (.tuple #[]) ∧ Rdr w2 R W.heap.size { j with items := j.items ++ [⟨5, 0, 0, 0, 0, 0, (j.notes.length : Int)⟩], notes := j.notes ++ [⟨evens ns, odds ns⟩] } next ∧ KeepJ W R w1 w2 := by
  obtain ⟨g, rfl, hg, -, hmc, hcm, hcell, cs, hcs⟩ := int_row hr hn0
  have hgR := h.ne hcs (by decide)
  have HCELL := Lib.hid hcell
  have HR := Lib.hid h
  have HCS := Lib.hid hcs
  obtain ⟨iv0, nv0, fv0, hB0, hJ0⟩ := h
  obtain ⟨nts0, hnl0, hnr0, -⟩ := hJ0.noteRow
  obtain ⟨na0, nc0, rfl, -⟩ := hnr0.sl (fun _ => rfl)
  rw [hnl0] at hB0
  have c20 := hB0.cell 20 (rdr_hi hgl 2)
  have hRl := hB0.lt
  clear hr hcell hcs hB0 hJ0 hnl0 hnr0
  go_enter Tryz.func63, Tryz.ntmps63
  go_wp2_with fail
  refine (mkNote_any (j.notes.length : Int) _).mono ?_
  rintro e w3 ⟨rfl, kk⟩
  have kw3 : Kp w1 w3 := ((by (repeat (first | with_reducible assumption | with_reducible exact Kp.refl _ | with_reducible refine Kp.drew ?_ | with_reducible refine Kp.drewN ?_ _ | with_reducible refine Kp.alloc ?_ _ | ((with_reducible refine Kp.setCell ?_ ?_ _); rotate_left; (focus (first | omega | (simp; done) | (simp; omega)))) | with_reducible refine Kp.trans ?_ (by assumption)))) : Kp w1 _).trans kk
  go_wp2_with fail
  refine (put_any W R j next ⟨5, 0, 0, 0, 0, 0, (j.notes.length : Int)⟩ _ (k1.trans kw3) hWR (HR.out.kp kw3) hgl hl).mono ?_
  rintro e w4 ⟨rfl, hR4, hK4⟩
  have hKK := ((KeepJ.refl R k1).kp kw3).trans hK4
  have hRl4 := hR4.lt
  have HR4 := Lib.hid hR4
  have G4 : Hid (∀ (i : Nat) n, ns[i]? = some n → w4.cell? ⟨g, i, none⟩ = some (.int .i64 n)) := Lib.hid fun i n hi => (hKK.cell HCS.out notJt_i64 hgR i).trans (HCELL.out i n hi)
  have hg4 : g < w4.heap.size := Nat.lt_of_lt_of_le hg hKK.2.1
  clear hR4 HCELL HR c20
  go_wp2_with fail
  go_loopw [18] (fun v18 wr => ∃ (k : Nat) (la pa : Option Addr) (lc pc : Nat), k ≤ ns.length ∧ v18 = .int .i64 (k : Int) ∧ Blk wr w4.heap.size [.slice la (evens (ns.take k)).length lc, .slice pa (odds (ns.take k)).length pc] 47 ∧ Row wr (w4.heap.size + 1) 23 1 enc1 (.slice la (evens (ns.take k)).length lc) (evens (ns.take k)) ∧ Row wr (w4.heap.size + 1) 3 1 enc1 (.slice pa (odds (ns.take k)).length pc) (odds (ns.take k)) ∧ Kp w4 wr) (fun v18 _ => ns.length - (intOf v18).toNat)
  case atStart => exact ⟨0, none, none, 0, 0, Nat.zero_le _, rfl, (by (repeat (first | with_reducible assumption | ((with_reducible refine Blk.newL ?_ ?_); (focus (first | (simp; done) | omega)); rfl) | with_reducible refine Blk.drew ?_ | with_reducible refine Blk.drewN ?_ _ | with_reducible refine Blk.alloc ?_ _ | ((with_reducible refine Blk.other ?_ ?_ _); rotate_left; (focus (first | with_reducible assumption | omega | (simp; done) | (simp; omega))))))), Row.nil _ _ _ _ _, Row.nil _ _ _ _ _, (by (repeat (first | with_reducible assumption | with_reducible exact Kp.refl _ | with_reducible refine Kp.drew ?_ | with_reducible refine Kp.drewN ?_ _ | with_reducible refine Kp.alloc ?_ _ | ((with_reducible refine Kp.setCell ?_ ?_ _); rotate_left; (focus (first | omega | (simp; done) | (simp; omega)))) | with_reducible refine Kp.trans ?_ (by assumption))))⟩
  case round =>
    obtain ⟨k, la, pa, lc, pc, hk, rfl, xn, xl, xp, xk⟩ := hrel
    have hEl := (evens_len (ns.take k)).1
    have hOl := (evens_len (ns.take k)).2
    have htl : (ns.take k).length = k := by rw [List.length_take]; omega
    rw [htl] at hEl hOl
    obtain ⟨E, hE⟩ : ∃ E, evens (ns.take k) = E := ⟨_, rfl⟩
    obtain ⟨O, hO⟩ : ∃ O, odds (ns.take k) = O := ⟨_, rfl⟩
    rw [hE, hO] at xn
    rw [hE] at xl hEl
    rw [hO] at xp hOl
    have z0 := xn.cell 0 rfl
    have z1 := xn.cell 1 rfl
    have XN := Lib.hid xn
    have XL := Lib.hid xl
    have XP := Lib.hid xp
    have hnl := xn.lt
    have hgr : g < wr.heap.size := Nat.lt_of_lt_of_le hg4 xk.size
    have sl1 := Row.slok (enc := enc1) (n := 1) (fun _ => rfl) xl
    have sl2 := Row.slok (enc := enc1) (n := 1) (fun _ => rfl) xp
    have hlc1 := sl1.2.1
    have hlc2 := sl1.2.2.1
    have hpc1 := sl2.2.1
    have hpc2 := sl2.2.2.1
    unfold maxLen at hlc2 hpc2
    clear xn xl xp sl1 sl2
    by_cases hlt : k < ns.length
    · obtain ⟨x, hx⟩ : ∃ x, ns[k]? = some x := ⟨ns[k], List.getElem?_eq_getElem hlt⟩
      have ht : ns.take (k + 1) = ns.take k ++ [x] := by rw [List.take_add_one, hx]; rfl
      have hsn := evens_snoc (ns.take k) x
      rw [htl, ← ht, hE, hO] at hsn
      have d0 := (xk.cell (p := ⟨g, k, none⟩) hg4).trans (G4.out k x hx)
      have ji : decide ((k : Int) < (ns.length : Int)) = true := decide_eq_true (by omega)
      have HNZ : Hid (w4.heap.size + 1 ≤ wr.heap.size) := Lib.hid hnl
      by_cases hpar : k % 2 = 0
      · have jp : ((k : Int).tmod 2 == 0) = true := beq_iff_eq.2 (by rw [Int.tmod_eq_emod_of_nonneg (by omega)]; omega)
        have HN := Lib.hid (hsn.1 hpar)
        clear hsn ht hx hE hO htl
        go_wp2_with (at_builtin; go_loud (refine rowAppendXL ?gd (.tmp 27) (.tmp 29) 44 ?ho Tryz.underlying44 infoSp rfl (by decide) (XL.out.kp (show Kp wr _ from (by (repeat (first | with_reducible assumption | with_reducible exact Kp.refl _ | with_reducible refine Kp.drew ?_ | with_reducible refine Kp.drewN ?_ _ | with_reducible refine Kp.alloc ?_ _ | ((with_reducible refine Kp.setCell ?_ ?_ _); rotate_left; (focus (first | omega | (simp; done) | (simp; omega)))) | with_reducible refine Kp.trans ?_ (by assumption)))))) ?hs (y := x) rfl (numOne x) (Blk.new _ _ 23) ?hx ?hl ?hb ?hz ?_; (case gd => rfl); (case ho => rfl); (case hs => rfl); (case hx => rfl); (case hl => unfold maxLen; omega); (case hb => omega); (case hz => exact Nat.le_trans HNZ.out (by simp)); intro v' w5 hr5 hg5 hl5; obtain ⟨a5, c5, rfl, _⟩ := hr5.sl (fun _ => rfl); have bn5 := (Blk.alloc XN.out (.cells #[.int .i64 x] 23)).grown1 hg5 (fun e => by have := ((XL.out.kp (show Kp wr (wr.alloc (.cells #[.int .i64 x] 23)) from (by (repeat (first | with_reducible assumption | with_reducible exact Kp.refl _ | with_reducible refine Kp.drew ?_ | with_reducible refine Kp.drewN ?_ _ | with_reducible refine Kp.alloc ?_ _ | ((with_reducible refine Kp.setCell ?_ ?_ _); rotate_left; (focus (first | omega | (simp; done) | (simp; omega)))) | with_reducible refine Kp.trans ?_ (by assumption)))))).lt _ e).1; omega); have y0 := bn5.cell 0 rfl; have f0 := bn5.free 0; have y1 := bn5.cell 1 rfl))
        have hp5 := row_apart (XP.out.kp (show Kp wr (wr.alloc (.cells #[.int .i64 x] 23)) from (by (repeat (first | with_reducible assumption | with_reducible exact Kp.refl _ | with_reducible refine Kp.drew ?_ | with_reducible refine Kp.drewN ?_ _ | with_reducible refine Kp.alloc ?_ _ | ((with_reducible refine Kp.setCell ?_ ?_ _); rotate_left; (focus (first | omega | (simp; done) | (simp; omega)))) | with_reducible refine Kp.trans ?_ (by assumption)))))) (XL.out.kp (show Kp wr (wr.alloc (.cells #[.int .i64 x] 23)) from (by (repeat (first | with_reducible assumption | with_reducible exact Kp.refl _ | with_reducible refine Kp.drew ?_ | with_reducible refine Kp.drewN ?_ _ | with_reducible refine Kp.alloc ?_ _ | ((with_reducible refine Kp.setCell ?_ ?_ _); rotate_left; (focus (first | omega | (simp; done) | (simp; omega)))) | with_reducible refine Kp.trans ?_ (by assumption)))))) (by decide) hg5
        have k5 : Kp w4 w5 := (xk.alloc (.cells #[.int .i64 x] 23)).grown1 hg5 fun b hb => by
          have := ((XL.out.kp (show Kp wr (wr.alloc (.cells #[.int .i64 x] 23)) from (by (repeat (first | with_reducible assumption | with_reducible exact Kp.refl _ | with_reducible refine Kp.drew ?_ | with_reducible refine Kp.drewN ?_ _ | with_reducible refine Kp.alloc ?_ _ | ((with_reducible refine Kp.setCell ?_ ?_ _); rotate_left; (focus (first | omega | (simp; done) | (simp; omega)))) | with_reducible refine Kp.trans ?_ (by assumption)))))).lt b hb).1
          omega
        have bn6 := bn5.set 0 (.slice a5 (E ++ [x]).length c5)
        have hr6 := row_away hr5 bn5 (by decide) 0 (.slice a5 (E ++ [x]).length c5)
        have hp6 := row_away hp5 bn5 (by decide) 0 (.slice a5 (E ++ [x]).length c5)
        go_wp2_with fail
        go_roundw
        case rel =>
          refine ⟨k + 1, a5, pa, c5, pc, by omega, by go_num, ?_, ?_, ?_, (by (repeat (first | with_reducible assumption | with_reducible exact Kp.refl _ | with_reducible refine Kp.drew ?_ | with_reducible refine Kp.drewN ?_ _ | with_reducible refine Kp.alloc ?_ _ | ((with_reducible refine Kp.setCell ?_ ?_ _); rotate_left; (focus (first | omega | (simp; done) | (simp; omega)))) | with_reducible refine Kp.trans ?_ (by assumption))))⟩
          · rw [HN.out.1, HN.out.2]
            simp only [List.length_append, List.length_singleton] at bn6 ⊢
            exact bn6
          · rw [HN.out.1]
            simp only [List.length_append, List.length_singleton] at hr6 ⊢
            exact hr6
          · rw [HN.out.2]
            simp only [List.length_append, List.length_singleton] at hp6 ⊢
            exact hp6
        case measure => simp [intOf]; omega
      · have jp : ((k : Int).tmod 2 == 0) = false := beq_eq_false_iff_ne.2 (by rw [Int.tmod_eq_emod_of_nonneg (by omega)]; omega)
        have HN := Lib.hid (hsn.2 (by omega))
        clear hsn ht hx hE hO htl
        go_wp2_with (at_builtin; go_loud (refine rowAppendXL ?gd (.tmp 33) (.tmp 35) 45 ?ho Tryz.underlying45 infoInt rfl (by decide) (XP.out.kp (show Kp wr _ from (by (repeat (first | with_reducible assumption | with_reducible exact Kp.refl _ | with_reducible refine Kp.drew ?_ | with_reducible refine Kp.drewN ?_ _ | with_reducible refine Kp.alloc ?_ _ | ((with_reducible refine Kp.setCell ?_ ?_ _); rotate_left; (focus (first | omega | (simp; done) | (simp; omega)))) | with_reducible refine Kp.trans ?_ (by assumption)))))) ?hs (y := x) rfl (numOne x) (Blk.new _ _ 3) ?hx ?hl ?hb ?hz ?_; (case gd => rfl); (case ho => rfl); (case hs => rfl); (case hx => rfl); (case hl => unfold maxLen; omega); (case hb => omega); (case hz => exact Nat.le_trans HNZ.out (by simp)); intro v' w5 hr5 hg5 hl5; obtain ⟨a5, c5, rfl, _⟩ := hr5.sl (fun _ => rfl); have bn5 := (Blk.alloc XN.out (.cells #[.int .i64 x] 3)).grown1 hg5 (fun e => by have := ((XP.out.kp (show Kp wr (wr.alloc (.cells #[.int .i64 x] 3)) from (by (repeat (first | with_reducible assumption | with_reducible exact Kp.refl _ | with_reducible refine Kp.drew ?_ | with_reducible refine Kp.drewN ?_ _ | with_reducible refine Kp.alloc ?_ _ | ((with_reducible refine Kp.setCell ?_ ?_ _); rotate_left; (focus (first | omega | (simp; done) | (simp; omega)))) | with_reducible refine Kp.trans ?_ (by assumption)))))).lt _ e).1; omega); have y0 := bn5.cell 0 rfl; have f1 := bn5.free 1; have y1 := bn5.cell 1 rfl))
        have hp5 := row_apart (XL.out.kp (show Kp wr (wr.alloc (.cells #[.int .i64 x] 3)) from (by (repeat (first | with_reducible assumption | with_reducible exact Kp.refl _ | with_reducible refine Kp.drew ?_ | with_reducible refine Kp.drewN ?_ _ | with_reducible refine Kp.alloc ?_ _ | ((with_reducible refine Kp.setCell ?_ ?_ _); rotate_left; (focus (first | omega | (simp; done) | (simp; omega)))) | with_reducible refine Kp.trans ?_ (by assumption)))))) (XP.out.kp (show Kp wr (wr.alloc (.cells #[.int .i64 x] 3)) from (by (repeat (first | with_reducible assumption | with_reducible exact Kp.refl _ | with_reducible refine Kp.drew ?_ | with_reducible refine Kp.drewN ?_ _ | with_reducible refine Kp.alloc ?_ _ | ((with_reducible refine Kp.setCell ?_ ?_ _); rotate_left; (focus (first | omega | (simp; done) | (simp; omega)))) | with_reducible refine Kp.trans ?_ (by assumption)))))) (by decide) hg5
        have k5 : Kp w4 w5 := (xk.alloc (.cells #[.int .i64 x] 3)).grown1 hg5 fun b hb => by
          have := ((XP.out.kp (show Kp wr (wr.alloc (.cells #[.int .i64 x] 3)) from (by (repeat (first | with_reducible assumption | with_reducible exact Kp.refl _ | with_reducible refine Kp.drew ?_ | with_reducible refine Kp.drewN ?_ _ | with_reducible refine Kp.alloc ?_ _ | ((with_reducible refine Kp.setCell ?_ ?_ _); rotate_left; (focus (first | omega | (simp; done) | (simp; omega)))) | with_reducible refine Kp.trans ?_ (by assumption)))))).lt b hb).1
          omega
        have bn6 := bn5.set 1 (.slice a5 (O ++ [x]).length c5)
        have hr6 := row_away hr5 bn5 (by decide) 1 (.slice a5 (O ++ [x]).length c5)
        have hp6 := row_away hp5 bn5 (by decide) 1 (.slice a5 (O ++ [x]).length c5)
        go_wp2_with fail
        go_roundw
        case rel =>
          refine ⟨k + 1, la, a5, lc, c5, by omega, by go_num, ?_, ?_, ?_, (by (repeat (first | with_reducible assumption | with_reducible exact Kp.refl _ | with_reducible refine Kp.drew ?_ | with_reducible refine Kp.drewN ?_ _ | with_reducible refine Kp.alloc ?_ _ | ((with_reducible refine Kp.setCell ?_ ?_ _); rotate_left; (focus (first | omega | (simp; done) | (simp; omega)))) | with_reducible refine Kp.trans ?_ (by assumption))))⟩
          · rw [HN.out.1, HN.out.2]
            simp only [List.length_append, List.length_singleton] at bn6 ⊢
            exact bn6
          · rw [HN.out.1]
            simp only [List.length_append, List.length_singleton] at hp6 ⊢
            exact hp6
          · rw [HN.out.2]
            simp only [List.length_append, List.length_singleton] at hr6 ⊢
            exact hr6
        case measure => simp [intOf]; omega
    · obtain rfl : k = ns.length := by omega
      have ji : decide ((ns.length : Int) < (ns.length : Int)) = false := decide_eq_false (by omega)
      rw [List.take_length] at hE hO
      have hRr := HR4.out.kp xk
      have hKr := hKK.kp xk
      obtain ⟨iv, nv, fv, hB, hJ⟩ := hRr
      obtain ⟨nts, hnl1, hnr, hnew⟩ := hJ.noteRow
      obtain ⟨na, nc, rfl, hsl⟩ := hnr.sl (fun _ => rfl)
      simp only at hB hnl1
      have hnc := hsl.2.1
      have hnm := hsl.2.2.1
      unfold maxLen at hnm
      have d20 := hB.cell 20 (rdr_hi hgl 2)
      have hRr2 := hB.lt
      have HB2 := Lib.hid hB
      have HNR := Lib.hid hnr
      have HNEW := Lib.hid hnew
      have hRi : Hid (∀ b, (Value.slice na nts.length nc).ownBlock = some b → b ≠ R) := Lib.hid fun b hb e => by
        obtain ⟨e1, h1⟩ := HNR.out.type hb
        rw [e, HB2.out.heap] at h1
        cases h1
      have hNi : Hid (∀ b, (Value.slice na nts.length nc).ownBlock = some b → b ≠ w4.heap.size) := Lib.hid fun b hb e => by
        obtain ⟨iv4, nv4, fv4, hB4, hJ4⟩ := HR4.out
        have := hB4.kp xk
        have hh := this.heap
        rw [hB.heap] at hh
        simp only [Option.some.injEq, Obj.cells.injEq, and_true] at hh
        have h20 := congrArg (·[20]?) (congrArg Array.toList hh)
        rw [rdr_hi hgl 2] at h20
        have q : (rdr j.g j.bal iv4 nv4 fv4 (next : Int))[20]? = some nv4 := rdr_hi hgl 2
        rw [q] at h20
        obtain ⟨nts4, _, hnr4, _⟩ := hJ4.noteRow
        have e2 : Value.slice na nts.length nc = nv4 := by simpa using h20
        rw [e2] at hb
        have := (hnr4.lt b hb).2
        omega
      have hWs : Hid (W.heap.size ≤ w4.heap.size) := Lib.hid hKK.1.size
      have hWr : Hid (W.heap.size ≤ wr.heap.size) := Lib.hid hKr.1.size
      have hNR : w4.heap.size ≠ R := by omega
      have hn9 : nts.length ≤ 1000000 := by rw [hnl1]; exact hfl
      clear hsl hJ hB hnr hnew hnl1
      have HE := Lib.hid hE
      have HO := Lib.hid hO
      clear hE hO
      go_wp2_with fail
      (refine wp_region_held_drew (S := (fun w' => wr.heap.size ≤ w'.heap.size ∧ w'.cell? ⟨w4.heap.size, 0, none⟩ = some (.slice la E.length lc) ∧ w'.cell? ⟨w4.heap.size, 1, none⟩ = some (.slice pa O.length pc))) (by kernel_rfl) ?_ (fun hHd => ?_); (focus ((try dsimp only); exact ⟨Nat.le_refl _, z0, z1⟩)))
      (refine takeH (i := 0) (oi := ?o105) (v := ?v105) ?h105 (by kernel_rfl) ?q105 (Or.inl ⟨?w105, ?y105⟩) (by assumption) ?r105; (case h105 => ((simp only [g1, g3]); rfl)); (case q105 => exact fun _ _ _ h => h); (case w105 => rfl); (case y105 => (intro w' hSw; (try dsimp only at hSw); go_simp; (try with_reducible rfl))); (try simp only [Act.put, s1, s2, s3]))
      (refine takeH (i := 1) (oi := ?o106) (v := ?v106) ?h106 (by kernel_rfl) ?q106 (Or.inl ⟨?w106, ?y106⟩) (by assumption) ?r106; (case h106 => ((simp only [g1, g2, g3]); rfl)); (case q106 => exact fun _ _ _ h => h); (case w106 => rfl); (case y106 => (intro w' hSw; (try dsimp only at hSw); go_simp; (try with_reducible rfl))); (try simp only [Act.put, s1, s2, s3]))
      (refine takeH (i := 2) (oi := ?o107) (v := ?v107) ?h107 (by kernel_rfl) ?q107 (Or.inl ⟨?w107, ?y107⟩) (by assumption) ?r107; (case h107 => ((simp only [g1, g2, g3]); rfl)); (case q107 => exact fun _ _ _ h => h); (case w107 => rfl); (case y107 => (intro w' hSw; (try dsimp only at hSw); go_simp; (try with_reducible rfl))); (try simp only [Act.put, s1, s2, s3]))
      (refine takeH (i := 3) (oi := ?o108) (v := ?v108) ?h108 (by kernel_rfl) ?q108 (Or.inl ⟨?w108, ?y108⟩) (by assumption) ?r108; (case h108 => ((simp only [g1, g2, g3]); rfl)); (case q108 => exact fun _ _ _ h => h); (case w108 => rfl); (case y108 => (intro w' hSw; (try dsimp only at hSw); go_simp; (try with_reducible rfl))); (try simp only [Act.put, s1, s2, s3]))
      (refine takeH (i := 4) (oi := ?o109) (v := ?v109) ?h109 (by kernel_rfl) ?q109 (Or.inl ⟨?w109, ?y109⟩) (by assumption) ?r109; (case h109 => ((simp only [g1, g2, g3]); rfl)); (case q109 => exact fun _ _ _ h => h); (case w109 => rfl); (case y109 => (intro w' hSw; (try dsimp only at hSw); go_simp; (try with_reducible rfl))); (try simp only [Act.put, s1, s2, s3]))
      (refine takeH (i := 6) (oi := ?o110) (v := ?v110) ?h110 (by kernel_rfl) ?q110 (Or.inl ⟨?w110, ?y110⟩) (by assumption) ?r110; (case h110 => ((simp only [g1, g2, g3]); rfl)); (case q110 => exact fun _ _ _ h => h); (case w110 => rfl); (case y110 => (intro w' hSw; (try dsimp only at hSw); go_simp; (try with_reducible rfl))); (try simp only [Act.put, s1, s2, s3]))
      (refine wpAnyH_ready (rs := [5, 7]) (by kernel_rfl) (by simp) ?_; refine (AllReadyH.cons (o := ?o111) ?h111 (fun K hK => ?s111) (AllReadyH.cons (o := ?o112) ?h112 (fun K hK => ?s112) AllReadyH.nil)); (case h111 => (first | ((simp only [g1, g2, g3]); rfl) | rfl)); (case h112 => (first | ((simp only [g1, g2, g3]); rfl) | rfl)))
      (go_simp; (try dsimp only); refine hK.out _ _ ?_ (fun hHd => ?_); (focus ((try dsimp only); exact hHd)); clear hK K; (try simp only [Act.put, s1, s2, s3]))
      (refine wpAnyH_ready (rs := [7]) (by kernel_rfl) (by simp) ?_; refine AllReadyH.cons (o := ?o113) ?h113 (fun K hK => ?s113) AllReadyH.nil; (case h113 => (first | ((simp only [g1, g2, g3]); rfl) | rfl)); go_simp; (try dsimp only); refine hK.out _ _ ?_ (fun hHd => ?_); (focus ((try dsimp only); exact ⟨(show Kp wr _ from (by (repeat (first | with_reducible assumption | with_reducible exact Kp.refl _ | with_reducible refine Kp.drew ?_ | with_reducible refine Kp.drewN ?_ _ | with_reducible refine Kp.alloc ?_ _ | ((with_reducible refine Kp.setCell ?_ ?_ _); rotate_left; (focus (first | omega | (simp; done) | (simp; omega)))) | with_reducible refine Kp.trans ?_ (by assumption))))).size, ((show Kp wr _ from (by (repeat (first | with_reducible assumption | with_reducible exact Kp.refl _ | with_reducible refine Kp.drew ?_ | with_reducible refine Kp.drewN ?_ _ | with_reducible refine Kp.alloc ?_ _ | ((with_reducible refine Kp.setCell ?_ ?_ _); rotate_left; (focus (first | omega | (simp; done) | (simp; omega)))) | with_reducible refine Kp.trans ?_ (by assumption))))).cell (p := ⟨w4.heap.size, 0, none⟩) hnl).trans z0, ((show Kp wr _ from (by (repeat (first | with_reducible assumption | with_reducible exact Kp.refl _ | with_reducible refine Kp.drew ?_ | with_reducible refine Kp.drewN ?_ _ | with_reducible refine Kp.alloc ?_ _ | ((with_reducible refine Kp.setCell ?_ ?_ _); rotate_left; (focus (first | omega | (simp; done) | (simp; omega)))) | with_reducible refine Kp.trans ?_ (by assumption))))).cell (p := ⟨w4.heap.size, 1, none⟩) hnl).trans z1⟩)); clear hK K; (try simp only [Act.put, s1, s2, s3]))
      (refine wpAnyH_ready (rs := [8]) (by kernel_rfl) (by simp) ?_; refine AllReadyH.cons (o := ?o114) ?h114 (fun K hK => ?s114) AllReadyH.nil; (case h114 => (first | ((simp only [g1, g2, g3]); rfl) | rfl)); (refine rowAppendX (.tmp 44) (.tmp 46) 27 ?ho115 Tryz.underlying27 infoNt rfl (by decide) (HNR.out.kp (show Kp wr _ from (by (repeat (first | with_reducible assumption | with_reducible exact Kp.refl _ | with_reducible refine Kp.drew ?_ | with_reducible refine Kp.drewN ?_ _ | with_reducible refine Kp.alloc ?_ _ | ((with_reducible refine Kp.setCell ?_ ?_ _); rotate_left; (focus (first | omega | (simp; done) | (simp; omega)))) | with_reducible refine Kp.trans ?_ (by assumption)))))) ?hs115 (y := (⟨⟨la, E.length, lc, E⟩, ⟨pa, O.length, pc, O⟩⟩ : Nt)) rfl (ntOne _) (show Blk _ wr.heap.size (Nt.cells (⟨⟨la, E.length, lc, E⟩, ⟨pa, O.length, pc, O⟩⟩ : Nt)) 47 from (by (repeat (first | with_reducible assumption | ((with_reducible refine Blk.newL ?_ ?_); (focus (first | (simp; done) | omega)); rfl) | with_reducible refine Blk.drew ?_ | with_reducible refine Blk.drewN ?_ _ | with_reducible refine Blk.alloc ?_ _ | ((with_reducible refine Blk.other ?_ ?_ _); rotate_left; (focus (first | with_reducible assumption | omega | (simp; done) | (simp; omega)))))))) ?hx115 ?hl115 ?hb115 ?hz115 ?_; (case ho115 => rfl); (case hs115 => rfl); (case hx115 => rfl); (case hl115 => unfold maxLen; omega); (case hb115 => omega); (case hz115 => exact Nat.le_trans hWr.out (show Kp wr _ from (by (repeat (first | with_reducible assumption | with_reducible exact Kp.refl _ | with_reducible refine Kp.drew ?_ | with_reducible refine Kp.drewN ?_ _ | with_reducible refine Kp.alloc ?_ _ | ((with_reducible refine Kp.setCell ?_ ?_ _); rotate_left; (focus (first | omega | (simp; done) | (simp; omega)))) | with_reducible refine Kp.trans ?_ (by assumption))))).size); intro v' w5 hr' hgb hloc; obtain ⟨a5, c5, rfl, _⟩ := hr'.sl (fun _ => rfl); have hg5 : wr.grownBy w5 (Value.slice na nts.length nc).ownBlock := grown_trans (show Kp wr _ from (by (repeat (first | with_reducible assumption | with_reducible exact Kp.refl _ | with_reducible refine Kp.drew ?_ | with_reducible refine Kp.drewN ?_ _ | with_reducible refine Kp.alloc ?_ _ | ((with_reducible refine Kp.setCell ?_ ?_ _); rotate_left; (focus (first | omega | (simp; done) | (simp; omega)))) | with_reducible refine Kp.trans ?_ (by assumption))))).grownBy hgb; have hgs := hg5.size; have hkx : w5.heap[w4.heap.size]? = wr.heap[w4.heap.size]? := hg5.block _ hnl (fun e => hNi.out _ e.symm rfl); have hB3 := HB2.out.grown1 hg5 (fun e => hRi.out _ e rfl); have e20 := hB3.cell 20 (rdr_hi hgl 2); have f20 := hB3.free 20); refine hK.out _ _ ?_ (fun hHd => ?_); (focus ((try dsimp only); exact ⟨hgs, (cell_heap hkx _).trans z0, (cell_heap hkx _).trans z1⟩)); clear hK K; (try simp only [Act.put]))
      (refine takeH (i := 9) (oi := ?o116) (v := ?v116) ?h116 (by kernel_rfl) ?q116 (Or.inl ⟨?w116, ?y116⟩) (by assumption) ?r116; (case h116 => ((simp only [g1, g2, g3]); rfl)); (case q116 => exact fun _ _ _ h => h); (case w116 => rfl); (case y116 => (intro w' hSw; (try dsimp only at hSw); go_simp; (try with_reducible rfl))); (try simp only [Act.put, s1, s2, s3]))
      (refine takeH (i := 10) (oi := ?o117) (v := ?v117) ?h117 (by kernel_rfl) ?q117 (Or.inl ⟨?w117, ?y117⟩) (by assumption) ?r117; (case h117 => ((simp only [g1, g2, g3]); rfl)); (case q117 => exact fun _ _ _ h => h); (case w117 => rfl); (case y117 => (intro w' hSw; (try dsimp only at hSw); go_simp; (try with_reducible rfl))); (try simp only [Act.put, s1, s2, s3]))
      (refine takeH (i := 11) (oi := ?o118) (v := ?v118) ?h118 (by kernel_rfl) ?q118 (Or.inl ⟨?w118, ?y118⟩) (by assumption) ?r118; (case h118 => ((simp only [g1, g2, g3]); rfl)); (case q118 => exact fun _ _ _ h => h); (case w118 => rfl); (case y118 => (intro w' hSw; (try dsimp only at hSw); go_simp; (try with_reducible rfl))); (try simp only [Act.put, s1, s2, s3]))
      (refine wpAnyH_ready (rs := [12]) (by kernel_rfl) (by simp) ?_; refine AllReadyH.cons (o := ?o119) ?h119 (fun K hK => ?s119) AllReadyH.nil; (case h119 => (first | ((simp only [g1, g2, g3]); rfl) | rfl)); go_simp; (try dsimp only); refine hK.out _ _ ?_ (fun hHd => ?_); (focus ((try dsimp only); exact ⟨by simpa using hgs, (cell_heap (Below.heap_setCell _ _ _ _ hNR) _).trans ((cell_heap hkx _).trans z0), (cell_heap (Below.heap_setCell _ _ _ _ hNR) _).trans ((cell_heap hkx _).trans z1)⟩)); clear hK K; (try simp only [Act.put, s1, s2, s3]))
      refine wpAnyH_done (by kernel_rfl) ?_ _
      rotate_left
      (go_simp; (try dsimp only); refine hK.out _ _ ?_ (fun hHd => ?_); (focus ((try dsimp only); exact ⟨(show Kp wr _ from (by (repeat (first | with_reducible assumption | with_reducible exact Kp.refl _ | with_reducible refine Kp.drew ?_ | with_reducible refine Kp.drewN ?_ _ | with_reducible refine Kp.alloc ?_ _ | ((with_reducible refine Kp.setCell ?_ ?_ _); rotate_left; (focus (first | omega | (simp; done) | (simp; omega)))) | with_reducible refine Kp.trans ?_ (by assumption))))).size, ((show Kp wr _ from (by (repeat (first | with_reducible assumption | with_reducible exact Kp.refl _ | with_reducible refine Kp.drew ?_ | with_reducible refine Kp.drewN ?_ _ | with_reducible refine Kp.alloc ?_ _ | ((with_reducible refine Kp.setCell ?_ ?_ _); rotate_left; (focus (first | omega | (simp; done) | (simp; omega)))) | with_reducible refine Kp.trans ?_ (by assumption))))).cell (p := ⟨w4.heap.size, 0, none⟩) hnl).trans z0, ((show Kp wr _ from (by (repeat (first | with_reducible assumption | with_reducible exact Kp.refl _ | with_reducible refine Kp.drew ?_ | with_reducible refine Kp.drewN ?_ _ | with_reducible refine Kp.alloc ?_ _ | ((with_reducible refine Kp.setCell ?_ ?_ _); rotate_left; (focus (first | omega | (simp; done) | (simp; omega)))) | with_reducible refine Kp.trans ?_ (by assumption))))).cell (p := ⟨w4.heap.size, 1, none⟩) hnl).trans z1⟩)); clear hK K; (try simp only [Act.put, s1, s2, s3]))
      (refine wpAnyH_ready (rs := [5]) (by kernel_rfl) (by simp) ?_; refine AllReadyH.cons (o := ?o120) ?h120 (fun K hK => ?s120) AllReadyH.nil; (case h120 => (first | ((simp only [g1, g2, g3]); rfl) | rfl)); go_simp; (try dsimp only); refine hK.out _ _ ?_ (fun hHd => ?_); (focus ((try dsimp only); exact hHd)); clear hK K; (try simp only [Act.put, s1, s2, s3]))
      (refine wpAnyH_ready (rs := [8]) (by kernel_rfl) (by simp) ?_; refine AllReadyH.cons (o := ?o121) ?h121 (fun K hK => ?s121) AllReadyH.nil; (case h121 => (first | ((simp only [g1, g2, g3]); rfl) | rfl)); (refine rowAppendX (.tmp 44) (.tmp 46) 27 ?ho122 Tryz.underlying27 infoNt rfl (by decide) (HNR.out.kp (show Kp wr _ from (by (repeat (first | with_reducible assumption | with_reducible exact Kp.refl _ | with_reducible refine Kp.drew ?_ | with_reducible refine Kp.drewN ?_ _ | with_reducible refine Kp.alloc ?_ _ | ((with_reducible refine Kp.setCell ?_ ?_ _); rotate_left; (focus (first | omega | (simp; done) | (simp; omega)))) | with_reducible refine Kp.trans ?_ (by assumption)))))) ?hs122 (y := (⟨⟨la, E.length, lc, E⟩, ⟨pa, O.length, pc, O⟩⟩ : Nt)) rfl (ntOne _) (show Blk _ wr.heap.size (Nt.cells (⟨⟨la, E.length, lc, E⟩, ⟨pa, O.length, pc, O⟩⟩ : Nt)) 47 from (by (repeat (first | with_reducible assumption | ((with_reducible refine Blk.newL ?_ ?_); (focus (first | (simp; done) | omega)); rfl) | with_reducible refine Blk.drew ?_ | with_reducible refine Blk.drewN ?_ _ | with_reducible refine Blk.alloc ?_ _ | ((with_reducible refine Blk.other ?_ ?_ _); rotate_left; (focus (first | with_reducible assumption | omega | (simp; done) | (simp; omega)))))))) ?hx122 ?hl122 ?hb122 ?hz122 ?_; (case ho122 => rfl); (case hs122 => rfl); (case hx122 => rfl); (case hl122 => unfold maxLen; omega); (case hb122 => omega); (case hz122 => exact Nat.le_trans hWr.out (show Kp wr _ from (by (repeat (first | with_reducible assumption | with_reducible exact Kp.refl _ | with_reducible refine Kp.drew ?_ | with_reducible refine Kp.drewN ?_ _ | with_reducible refine Kp.alloc ?_ _ | ((with_reducible refine Kp.setCell ?_ ?_ _); rotate_left; (focus (first | omega | (simp; done) | (simp; omega)))) | with_reducible refine Kp.trans ?_ (by assumption))))).size); intro v' w5 hr' hgb hloc; obtain ⟨a5, c5, rfl, _⟩ := hr'.sl (fun _ => rfl); have hg5 : wr.grownBy w5 (Value.slice na nts.length nc).ownBlock := grown_trans (show Kp wr _ from (by (repeat (first | with_reducible assumption | with_reducible exact Kp.refl _ | with_reducible refine Kp.drew ?_ | with_reducible refine Kp.drewN ?_ _ | with_reducible refine Kp.alloc ?_ _ | ((with_reducible refine Kp.setCell ?_ ?_ _); rotate_left; (focus (first | omega | (simp; done) | (simp; omega)))) | with_reducible refine Kp.trans ?_ (by assumption))))).grownBy hgb; have hgs := hg5.size; have hkx : w5.heap[w4.heap.size]? = wr.heap[w4.heap.size]? := hg5.block _ hnl (fun e => hNi.out _ e.symm rfl); have hB3 := HB2.out.grown1 hg5 (fun e => hRi.out _ e rfl); have e20 := hB3.cell 20 (rdr_hi hgl 2); have f20 := hB3.free 20); refine hK.out _ _ ?_ (fun hHd => ?_); (focus ((try dsimp only); exact ⟨hgs, (cell_heap hkx _).trans z0, (cell_heap hkx _).trans z1⟩)); clear hK K; (try simp only [Act.put]))
      (refine takeH (i := 9) (oi := ?o123) (v := ?v123) ?h123 (by kernel_rfl) ?q123 (Or.inl ⟨?w123, ?y123⟩) (by assumption) ?r123; (case h123 => ((simp only [g1, g2, g3]); rfl)); (case q123 => exact fun _ _ _ h => h); (case w123 => rfl); (case y123 => (intro w' hSw; (try dsimp only at hSw); go_simp; (try with_reducible rfl))); (try simp only [Act.put, s1, s2, s3]))
      (refine takeH (i := 10) (oi := ?o124) (v := ?v124) ?h124 (by kernel_rfl) ?q124 (Or.inl ⟨?w124, ?y124⟩) (by assumption) ?r124; (case h124 => ((simp only [g1, g2, g3]); rfl)); (case q124 => exact fun _ _ _ h => h); (case w124 => rfl); (case y124 => (intro w' hSw; (try dsimp only at hSw); go_simp; (try with_reducible rfl))); (try simp only [Act.put, s1, s2, s3]))
      (refine takeH (i := 11) (oi := ?o125) (v := ?v125) ?h125 (by kernel_rfl) ?q125 (Or.inl ⟨?w125, ?y125⟩) (by assumption) ?r125; (case h125 => ((simp only [g1, g2, g3]); rfl)); (case q125 => exact fun _ _ _ h => h); (case w125 => rfl); (case y125 => (intro w' hSw; (try dsimp only at hSw); go_simp; (try with_reducible rfl))); (try simp only [Act.put, s1, s2, s3]))
      (refine wpAnyH_ready (rs := [12]) (by kernel_rfl) (by simp) ?_; refine AllReadyH.cons (o := ?o126) ?h126 (fun K hK => ?s126) AllReadyH.nil; (case h126 => (first | ((simp only [g1, g2, g3]); rfl) | rfl)); go_simp; (try dsimp only); refine hK.out _ _ ?_ (fun hHd => ?_); (focus ((try dsimp only); exact ⟨by simpa using hgs, (cell_heap (Below.heap_setCell _ _ _ _ hNR) _).trans ((cell_heap hkx _).trans z0), (cell_heap (Below.heap_setCell _ _ _ _ hNR) _).trans ((cell_heap hkx _).trans z1)⟩)); clear hK K; (try simp only [Act.put, s1, s2, s3]))
      refine wpAnyH_done (by kernel_rfl) ?_ _
      rotate_left
      all_goals
        have hJ3 := HNEW.out w5 _ (⟨⟨la, E.length, lc, E⟩, ⟨pa, O.length, pc, O⟩⟩ : Nt) ⟨E, O⟩ (XL.out.low (Nat.le_trans hWs.out (Nat.le_succ _))) (XP.out.low (Nat.le_trans hWs.out (Nat.le_succ _))) hr' hg5
        have hK3 := hKr.grown HNR.out (Nat.le_refl _) (.inr (.inl rfl)) hg5
        have hB4 := hB3.set 20 (.slice a5 (nts ++ [(⟨⟨la, E.length, lc, E⟩, ⟨pa, O.length, pc, O⟩⟩ : Nt)]).length c5)
        rw [rdr_20 hgl] at hB4
        have hJ4 := hJ3.move (TypedJ.away hB3 notJt_rdr 20 (.slice a5 (nts ++ [(⟨⟨la, E.length, lc, E⟩, ⟨pa, O.length, pc, O⟩⟩ : Nt)]).length c5))
        simp only [List.length_append, List.length_singleton] at hB4 hJ4
        clear hHd
        rw [← HE.out, ← HO.out] at hJ4
        go_wp2_with fail
        exact ⟨rfl, .tuple #[], (by simp [results, Tryz.results63, go_sem]), rfl, ⟨_, _, _, hB4, hJ4⟩, hK3.set hWR 20 _⟩
end Go.Proofs.YtaekeogaakogbaaGreatDoor
