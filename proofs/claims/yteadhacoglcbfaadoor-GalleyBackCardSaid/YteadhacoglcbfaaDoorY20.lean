/- Part 20 of the proof: A range over a function whose variable lies in a block of its own, made anew in each round. All things of pages as a slice; how many are of a kind. 'append(out, ys...)' where ys is a slice that was there. All things of pages, and those of a kind: the document's. Whether pages are plain: the document's. The law GalleyBack, plain: what comes back of pages, and of a text. The closure that writes a text and an end of line. Pages as a text: the program's. The law GalleyBack: there and back. -/
import Derived.Test.YteadhacoglcbfaaDoorY19
import Derived.Laws.AppendOwnNone
namespace Go.Proofs.YteadhacoglcbfaaDoor

open Go.RowKit

theorem wp_rangeB {α : Type} {P : Program} {g : Operand} {ps : Array Tmp} {assign body : Code} {Q : Exit → Act → World → Prop} {a : Act} {w : World} {gf : Nat} {lb : Array Value} (cells : α → List Value) (T : TypeId)
    (hg : a.eval g = .func (.func gf) #[] lb) (eg : ∀ args w, (callFunc gf args).run P w = .ok (.enter gf args) w)
    {encs : α → Array Value} {K : Nat → Prop} {S Sp : List α → Prop} {N : Nat} {w0 : World} (hseq : SeqStopsK Fence.wide 99 P gf lb encs (CK K) S Sp N w0) (hb0 : Below w0.heap.size w0 w) (hps : ∀ x, (encs x).size = ps.size)
    (I : List α → World → Prop) (Ix : Code → List α → World → Prop) (hI : OwnFrom w.heap.size I) (hIx : ∀ c, OwnFrom w.heap.size (Ix c)) (h0 : I [] w)
    (h : ∃ f : α → Nat → Act, (∀ (l : Nat) (pre : List α) (x : α) (W : World) (K' : Act → World → Prop), I pre W → (∀ b W', KeepsOthers W W' → CK K W W' → I pre W' → w.heap.size ≤ b → Blk W' b (cells x) T → K' (f x b) W') →
        assign.wpIn (Fence.wide.inRound l) 98 P (Exit.then K' (fun _ _ _ => False)) { tmps := (ps.zip (encs x)).foldl (fun t (p, v) => t.setIfInBounds p v) a.tmps, defers := [] } W) ∧
      ∀ (l : Nat) (pre : List α) (x : α) (b : Nat) (W : World), I pre W → w.heap.size ≤ b → Blk W b (cells x) T → pre.length < N → body.wpIn (Fence.wide.inRound l) 98 P (ownPostK (CK K) I Ix (pre ++ [x]) W) (f x b) W)
    (hdone : ∀ (D : Nat) (xs : List α) (W : World), w.heap.size ≤ D → S xs → I xs W → W.heap[D]? = some (.deferred (some [])) → Q .normal { a with defers := { target := .collected D, args := #[] } :: a.defers } W)
    (hstop : ∀ (D : Nat) (c : Code) (pre : List α) (W : World), w.heap.size ≤ D → Sp pre → Ix c pre W → W.heap[D]? = some (.deferred (some [])) → c.wp P Q { a with defers := { target := .collected D, args := #[] } :: a.defers } W) :
    (Code.rangeFunc g ps assign body).wp P Q a w := by
  obtain ⟨f, h1, h2⟩ := h
  refine wpIn_wide.1 (wpIn_rangeFunc_ownH (F := Fence.wide) (n := 100) rfl (by decide) hg trivial eg hseq (fun h k => h.trans k) CK.book hb0 hps I Ix hI hIx h0 (fun x a' W => ∃ b, a' = f x b ∧ w.heap.size ≤ b ∧ Blk W b (cells x) T) ?_ ?_ ?_ hdone (fun D c pre W h1 h2 h3 h4 => wpIn_wide.2 (hstop D c pre W h1 h2 h3 h4)))
  · rintro x a' _ A B row ⟨b, he, hb, hB⟩ hg hr
    exact ⟨b, he, hb, hB.grown hg (fun r e => (hr r e).2)⟩
  · intro l pre x W K' hi hk
    exact h1 l pre x W K' hi (fun b W' k1 k2 k3 k4 k5 => hk _ W' (k1.from _) k2 k3 ⟨b, rfl, k4, k5⟩)
  · rintro l pre x a' W _ _ hi ⟨b, rfl, hb, hB⟩ hlt
    exact wpIn_mono (h2 l pre x b W hi hb hB hlt) ownPostG_of_ownPostK
end Go.Proofs.YteadhacoglcbfaaDoor
namespace Go.Proofs.YteadhacoglcbfaaDoor

open Go.RowKit Go.Shelf

attribute [local go_sem] Oper.semAt_some

theorem infoPut : (Tryd.prog.info? 33).map (fun i => (i.zero, i.size, i.bytes)) = some (some (.agg #[.int .i64 0, .int .i64 0, .int .i64 0, .int .i64 0, .int .i64 0]), 5, 40) := by kernel_rfl
theorem Row.base {α : Type} {w : World} {base base' n : Nat} {e : TypeId} {enc : α → List Value} {v : Value} {l : List α} (h : Row w base e n enc v l) (hb : base' ≤ base) : Row w base' e n enc v l := by
  obtain ⟨h0, h1⟩ := h
  refine ⟨h0, h1.imp id ?_⟩
  rintro ⟨g, cap, cur, a1, a2, a3⟩
  exact ⟨g, cap, cur, a1, Nat.le_trans hb a2, a3⟩
def kindN (l : List Put) (k : Int) : Nat := (l.filter fun p => p.k == k).length
theorem kindN_snoc (l : List Put) (x : Put) (k : Int) : kindN (l ++ [x]) k = if x.k = k then kindN l k + 1 else kindN l k := by
  unfold kindN
  rw [List.filter_append, List.length_append]
  by_cases h : x.k = k
  · simp [h]
  · simp [h]
theorem kindN_le (l : List Put) (k : Int) : kindN l k ≤ l.length := List.length_filter_le _ _
end Go.Proofs.YteadhacoglcbfaaDoor
namespace Go.Proofs.YteadhacoglcbfaaDoor

open Go.RowKit

theorem flatMap_at {α : Type} {enc : α → List Value} {n : Nat} (hn : ∀ x, (enc x).length = n) : ∀ (l : List α) (j : Nat) (v : Value), (l.flatMap enc)[j]? = some v → ∃ i x j', l[i]? = some x ∧ (enc x)[j']? = some v ∧ j = i * n + j'
  | [], j, v, h => by simp at h
  | y :: l, j, v, h => by
    rw [List.flatMap_cons] at h
    rcases Nat.lt_or_ge j (enc y).length with c | c
    · rw [List.getElem?_append_left c] at h
      exact ⟨0, y, j, rfl, h, by omega⟩
    · rw [List.getElem?_append_right c] at h
      obtain ⟨i, x, j', h1, h2, h3⟩ := flatMap_at hn l _ v h
      rw [hn] at h3 c
      exact ⟨i + 1, x, j', by simpa using h1, h2, by rw [Nat.add_mul]; omega⟩
theorem flatMap_size {α : Type} {enc : α → List Value} {n : Nat} (hn : ∀ x, (enc x).length = n) : ∀ (l : List α), (l.flatMap enc).length = l.length * n
  | [] => by simp
  | y :: l => by rw [List.flatMap_cons, List.length_append, hn, flatMap_size hn l, List.length_cons, Nat.add_mul]; omega
theorem rowAppendS {α : Type} {o : Oper} {a : Act} {w : World} {K : Act → World → Prop} {Q : Exit → Act → World → Prop} (s x : Operand) (t : TypeId)
    (ho : o.op = .call { callee := .builtin .append, args := #[s, x], argTypes := #[t, t] }) {base : Nat} {e : TypeId} {z : Value} {n bytes : Nat} (ht : Tryd.prog.underlying t = some (.slice e))
    (hinfo : (Tryd.prog.info? e).map (fun i => (i.zero, i.size, i.bytes)) = some (some z, n, bytes)) (hzs : z.cells.size = n) (hsz : 0 < n)
    {v : Value} {l : List α} {enc : α → List Value} (hn : ∀ x, (enc x).length = n) (hrow : Row w base e n enc v l) (hs : a.eval s = v) {a2 : Option Addr} {c2 : Nat} {l2 : List α} (hsl : SlOk w n enc a2 l2.length c2 l2) (hx : a.eval x = .slice a2 l2.length c2)
    (h1 : ∀ y, ∀ u ∈ enc y, u.oneCell' = true) (hlen : l.length + l2.length ≤ maxLen) (hbytes : (l.length + l2.length) * bytes ≤ 140737488355328) (hbase : base ≤ w.heap.size)
    (h : ∀ v' w', Row w' base e n enc v' (l ++ l2) → (∀ {W : World}, W.heap.size ≤ base → Kp W w → Kp W w') → w.heap.size ≤ w'.heap.size → K (a.put o.dst v') w') : o.wp Tryd.prog a w K Q := by
  obtain ⟨i0, hi, hz0, hz1, hz2⟩ := info_parts hinfo
  rcases a2 with _ | ad
  · have hl : l2 = [] := by
      rcases hsl.2.2.2 with h4 | ⟨b, off, ha, _⟩
      · exact h4
      · cases ha
    subst hl
    have hrun := run_append_owned_none (P := Tryd.prog) (w := w) base t o.type e i0 n ht hi v l.length _ hrow
    unfold Oper.wp
    have hc : c2 = 0 ∨ True := .inr trivial
    simp only [List.length_nil] at hx
    simp [execOp, ho, resolve, invoke, builtin, hs, hx, Result.andThen]
    have hrun2 : (Builtin.append_ #[t, t] o.type #[v, .slice none 0 c2]).run Tryd.prog w = .ok v w := by
      first | exact hrun | (have := hrun; simpa [Builtin.append_] using this)
    rw [hrun2]
    exact h v w (by simpa using hrow) (fun _ k => k) (Nat.le_refl _)
  · refine wp_append_own w s x t ho base e i0 z n bytes ht hi hz0 hz1 hz2 hzs hsz v l.length _ hs hrow ad l2.length c2 (l2.flatMap enc) hx (flatMap_size hn l2) (fun j u hu => ?_) (fun u hu => ?_) hlen hbytes hbase ?_
    · rcases hsl.2.2.2 with h4 | ⟨b, off, ha, _, hr⟩
      · rw [h4] at hu; simp at hu
      · cases ha
        obtain ⟨i, y, j', h1', h2', rfl⟩ := flatMap_at hn l2 j u hu
        have hadd : (⟨b, off, none⟩ : Addr).add (i * n + j') = ⟨b, off + i * n + j', none⟩ := by unfold Addr.add; split <;> simp_all [Nat.add_assoc]
        rw [hadd]
        exact hr i y h1' j' u h2'
    · obtain ⟨y, _, hy⟩ := List.mem_flatMap.1 hu
      exact h1 y u hy
    · intro v' w' hown hgrow _
      have hr : ∀ k, v.ownBlock = some k → base ≤ k := fun k hk => (hrow.lt k hk).1
      refine h v' w' ?_ (fun {W} hW kW => Below.grown kW hgrow kW.size (fun k hk => Nat.le_trans hW (hr k hk))) hgrow.size
      unfold Row
      rw [List.length_append, List.flatMap_append]
      exact hown
theorem rowAppendSL {α : Type} {ops : Array Oper} {rest : List Oper} {o : Oper} {a : Act} {w : World} {Q : Exit → Act → World → Prop} (hgd : o.guard = none) (s x : Operand) (t : TypeId)
    (ho : o.op = .call { callee := .builtin .append, args := #[s, x], argTypes := #[t, t] }) {base : Nat} {e : TypeId} {z : Value} {n bytes : Nat} (ht : Tryd.prog.underlying t = some (.slice e))
    (hinfo : (Tryd.prog.info? e).map (fun i => (i.zero, i.size, i.bytes)) = some (some z, n, bytes)) (hzs : z.cells.size = n) (hsz : 0 < n)
    {v : Value} {l : List α} {enc : α → List Value} (hn : ∀ x, (enc x).length = n) (hrow : Row w base e n enc v l) (hs : a.eval s = v) {a2 : Option Addr} {c2 : Nat} {l2 : List α} (hsl : SlOk w n enc a2 l2.length c2 l2) (hx : a.eval x = .slice a2 l2.length c2)
    (h1 : ∀ y, ∀ u ∈ enc y, u.oneCell' = true) (hlen : l.length + l2.length ≤ maxLen) (hbytes : (l.length + l2.length) * bytes ≤ 140737488355328) (hbase : base ≤ w.heap.size)
    (h : ∀ v' w', Row w' base e n enc v' (l ++ l2) → (∀ {W : World}, W.heap.size ≤ base → Kp W w → Kp W w') → w.heap.size ≤ w'.heap.size → wpList Tryd.prog ops Q rest (a.put o.dst v') w') : wpList Tryd.prog ops Q (o :: rest) a w := by
  refine wpList_plain hgd fun K hK => ?_
  exact rowAppendS s x t ho ht hinfo hzs hsz hn hrow hs hsl hx h1 hlen hbytes hbase (fun v' w' h1 h2 h3 => hK _ _ (h v' w' h1 h2 h3))
end Go.Proofs.YteadhacoglcbfaaDoor
namespace Go.Proofs.YteadhacoglcbfaaDoor

open Go.RowKit

theorem put_one : ∀ y, ∀ u ∈ Put.cells y, u.oneCell' = true := fun y u hu => by
  simp only [Put.cells, List.mem_cons, List.not_mem_nil, or_false] at hu
  rcases hu with rfl | rfl | rfl | rfl | rfl <;> rfl
set_option maxRecDepth 100000 in
set_option maxHeartbeats 4000000 in
theorem refPuts_any (a : Option Addr) (cap : Nat) (l : List Page) (w : World) (hl : SlOk w 4 Page.cells a l.length cap l) (hg : ∀ y, y ∈ l → y.good w) (hN : (putsOf l).length ≤ 1000000) :
    Calls Tryd.prog 37 #[.slice a l.length cap] w fun e w' => ∃ v, e = .returned v ∧ Row w' w.heap.size 33 5 Put.cells v (putsOf l) ∧ Kp w w' := by
  have HL := Lib.hid hl
  have HG := Lib.hid hg
  have HN := Lib.hid hN
  have hcl := hl.2.1
  have hcm := hl.2.2.1
  unfold maxLen at hcm
  clear hl hg hN
  go_enter Tryd.func37, Tryd.ntmps37
  go_wp2_with fail
  go_loopw [3, 4] (fun v3 v4 wr => ∃ (k : Nat), k ≤ l.length ∧ v4 = .int .i64 k ∧ Row wr w.heap.size 33 5 Put.cells v3 ((l.take k).flatMap pagePuts) ∧ Kp w wr) (fun _ v4 _ => l.length - (intOf v4).toNat)
  case atStart => exact ⟨0, Nat.zero_le _, rfl, Row.nil _ _ _ _ _, (by (repeat (first | with_reducible assumption | with_reducible exact Kp.refl _ | with_reducible refine Kp.drew ?_ | with_reducible refine Kp.drewN ?_ _ | with_reducible refine Kp.alloc ?_ _ | ((with_reducible refine Kp.setCell ?_ ?_ _); rotate_left; (focus (first | omega | (simp; done) | (simp; omega)))) | with_reducible refine Kp.trans ?_ (by assumption))))⟩
  case round =>
    obtain ⟨k, hk, rfl, xr, xk⟩ := hrel
    by_cases hlt : k < l.length
    · obtain ⟨x, hx⟩ : ∃ x, l[k]? = some x := ⟨l[k]'hlt, List.getElem?_eq_getElem _⟩
      have hgx := HG.out x (List.mem_of_getElem? hx)
      have hsn := flat_snoc2 (f := pagePuts) hx
      have hct := flat_cut (f := pagePuts) hx
      obtain ⟨ga, oa, rfl, r1⟩ := HL.out.low (xk.ck) (by omega)
      have R1 : Hid (∀ wq, Kp w wq → RowAt wq 4 Page.cells ga oa l) := Lib.hid (fun wq kq => by
        obtain ⟨ga', oa', hh, r⟩ := HL.out.low (kq.ck) (by omega)
        cases hh; exact r)
      obtain ⟨⟨la, ll, lc, ls⟩, pt, pf, pl⟩ := x
      have j1 : decide ((k : Int) < (l.length : Int)) = true := decide_eq_true (by omega)
      obtain ⟨T, hT⟩ : ∃ T, (l.take k).flatMap pagePuts = T := ⟨_, rfl⟩
      rw [hT] at xr hsn hct
      have HX := Lib.hid hx
      have XR := Lib.hid xr
      have HSN := Lib.hid hsn
      have HCT := Lib.hid hct
      have HGX := Lib.hid hgx
      clear r1 hx xr hsn hct hgx hT
      go_wp2_with fail
      go_loopw [3, 5] (fun v3 v5 wr' => ∃ (m : Nat), m ≤ ls.length ∧ v5 = .int .i64 m ∧ Row wr' w.heap.size 33 5 Put.cells v3 (T ++ (ls.take m).flatMap fun x => x.s.l) ∧ Kp w wr') (fun _ v5 _ => ls.length - (intOf v5).toNat)
      case atStart => exact ⟨0, Nat.zero_le _, rfl, by simpa using XR.out, xk⟩
      case round =>
        clear XR xk
        obtain ⟨m, hm, rfl, yr, yk⟩ := hrel
        have d0 := R1.out wr yk k _ HX.out 0 _ rfl
        simp only [Nat.add_zero] at d0
        have hsl := HGX.out.2.2.2.1.1
        have hlc1 := HGX.out.2.2.2.1.2.1
        have hlc2 := HGX.out.2.2.2.1.2.2.1
        unfold maxLen at hlc2
        simp only at hsl hlc1 hlc2
        subst hsl
        by_cases hlt2 : m < ls.length
        · obtain ⟨y, hy⟩ : ∃ y, ls[m]? = some y := ⟨ls[m]'hlt2, List.getElem?_eq_getElem _⟩
          have hgy := HGX.out.2.2.2.2 y (List.mem_of_getElem? hy)
          have hsn := flat_snoc2 (f := fun x : Lane => x.s.l) hy
          have hct := flat_cut (f := fun x : Lane => x.s.l) hy
          obtain ⟨gb, ob, rfl, r2⟩ := HGX.out.2.2.2.1.low (yk.ck) (by simp only; omega)
          obtain ⟨yx, ⟨qa, ql, qc, qs⟩⟩ := y
          have f1 := r2 m _ hy 1 _ rfl
          simp only at f1
          have j2 : decide ((m : Int) < (ls.length : Int)) = true := decide_eq_true (by omega)
          have hql := hgy.2.1.1
          simp only at hql
          subst hql
          have hps := hgy.2.1.kp yk
          simp only at hsn hct hps
          obtain ⟨T2, hT2⟩ : ∃ T2, (ls.take m).flatMap (fun x => x.s.l) = T2 := ⟨_, rfl⟩
          rw [hT2] at yr hsn hct
          have hlen : T.length + T2.length + qs.length ≤ 1000000 := by
            have h := HN.out
            unfold putsOf at h
            rw [HCT.out] at h
            unfold pagePuts at h
            simp only at h
            rw [hct] at h
            simp only [List.length_append] at h
            omega
          have YR := Lib.hid yr
          have HSN2 := Lib.hid hsn
          have HPS := Lib.hid hps
          clear r2 hy yr hsn hct hgy hT2 hps
          go_wp2_with (at_builtin; refine rowAppendSL ?gd (.tmp 22) (.tmp 31) 44 ?ho Tryd.underlying44 infoPut rfl (by decide) (fun _ => rfl) YR.out ?hs HPS.out ?hx put_one ?hl ?hb yk.size ?_; (case gd => rfl); (case ho => rfl); (case hs => rfl); (case hx => rfl); (case hl => unfold maxLen; simp only [List.length_append]; omega); (case hb => simp only [List.length_append]; omega); intro v' w' hr' hkk hsz)
          go_roundw
          case rel => exact ⟨m + 1, by omega, by go_num, by rw [HSN2.out, ← List.append_assoc]; exact hr', hkk (Nat.le_refl _) yk⟩
          case measure => simp [intOf]; omega
        · obtain rfl : m = ls.length := by omega
          have j2 : decide ((ls.length : Int) < (ls.length : Int)) = false := decide_eq_false (by omega)
          rw [List.take_length] at yr
          have hend := HSN.out
          unfold pagePuts at hend
          simp only at hend
          have HEND : Hid (Row wr w.heap.size 33 5 Put.cells _ ((l.take (k + 1)).flatMap pagePuts)) := Lib.hid (by rw [HSN.out]; exact yr)
          clear yr hend
          go_wp2_with fail
          go_roundw
          case rel => exact ⟨k + 1, by omega, by go_num, HEND.out, yk⟩
          case measure => simp [intOf]; omega
    · obtain rfl : k = l.length := by omega
      have j1 : decide ((l.length : Int) < (l.length : Int)) = false := decide_eq_false (by omega)
      rw [List.take_length] at xr
      have XR := Lib.hid xr
      clear xr
      go_wp2_with fail
      (try go_ret)
      exact ⟨_, rfl, XR.out, xk⟩
end Go.Proofs.YteadhacoglcbfaaDoor
namespace Go.Proofs.YteadhacoglcbfaaDoor

open Go.ChangeShapes Go.WideShapes Go.ChangeAt Go.RowKit Go.Shelf

theorem plainP_def (p : Put) : plainP p = ((decide (p.k < 1) || (decide (3 < p.k) || p.l == 0)) && (!(p.k == 3) || p.n == 0)) := by
  obtain ⟨k, n, l, y, h⟩ := p
  unfold plainP Put.norm eqPut
  simp only
  by_cases h1 : k = 1 ∨ k = 2
  · rw [if_pos h1]
    have e1 : decide (k < 1) = false := decide_eq_false (by omega)
    have e2 : decide (3 < k) = false := decide_eq_false (by omega)
    have e3 : (k == 3) = false := beq_eq_false_iff_ne.2 (by omega)
    rw [e1, e2, e3]
    by_cases hl : l = 0
    · subst hl; simp
    · rw [beq_eq_false_iff_ne.2 hl, beq_eq_false_iff_ne.2 (fun e => hl e.symm)]; simp
  · rw [if_neg h1]
    by_cases h3 : k = 3
    · rw [if_pos h3]
      subst h3
      by_cases hl : l = 0 <;> by_cases hn : n = 0
      · subst hl; subst hn; simp
      · subst hl
        rw [beq_eq_false_iff_ne.2 hn, beq_eq_false_iff_ne.2 (fun e => hn e.symm)]; simp
      · subst hn
        rw [beq_eq_false_iff_ne.2 hl, beq_eq_false_iff_ne.2 (fun e => hl e.symm)]; simp
      · rw [beq_eq_false_iff_ne.2 hn, beq_eq_false_iff_ne.2 (fun e => hn e.symm), beq_eq_false_iff_ne.2 hl, beq_eq_false_iff_ne.2 (fun e => hl e.symm)]; simp
    · rw [if_neg h3]
      rw [beq_eq_false_iff_ne.2 h3]
      by_cases hk : k < 1
      · rw [decide_eq_true hk]; simp
      · rw [decide_eq_true (show 3 < k by omega)]; simp
set_option maxRecDepth 100000 in
set_option maxHeartbeats 8000000 in
theorem refPlain1_any (p : Put) (w : World) :
    Calls Tryd.prog 38 #[.agg #[.int .i64 p.k, .int .i64 p.n, .int .i64 p.l, .int .i64 p.y, .int .i64 p.h]] w fun e w' => e = .returned (.bool (plainP p)) ∧ Kp w w' := by
  rw [plainP_def]
  obtain ⟨k, n, l, y, h⟩ := p
  simp only
  go_enter Tryd.func38, Tryd.ntmps38
  by_cases h1 : k < 1
  · have e1 : decide (k < 1) = true := decide_eq_true h1
    have e3 : (k == 3) = false := beq_eq_false_iff_ne.2 (by omega)
    have e4 : decide (k = 3) = false := decide_eq_false (by omega)
    rw [e1, e3]
    go_wp2_with fail
    (try go_ret)
    exact ⟨by first | rfl | simp, (by (repeat (first | with_reducible assumption | with_reducible exact Kp.refl _ | with_reducible refine Kp.drew ?_ | with_reducible refine Kp.drewN ?_ _ | with_reducible refine Kp.alloc ?_ _ | ((with_reducible refine Kp.setCell ?_ ?_ _); rotate_left; (focus (first | omega | (simp; done) | (simp; omega)))) | with_reducible refine Kp.trans ?_ (by assumption))))⟩
  · have e1 : decide (k < 1) = false := decide_eq_false h1
    by_cases h2 : 3 < k
    · have e2 : decide (3 < k) = true := decide_eq_true h2
      have e3 : (k == 3) = false := beq_eq_false_iff_ne.2 (by omega)
      have e4 : decide (k = 3) = false := decide_eq_false (by omega)
      rw [e1, e2, e3]
      go_wp2_with fail
      (try go_ret)
      exact ⟨by first | rfl | simp, (by (repeat (first | with_reducible assumption | with_reducible exact Kp.refl _ | with_reducible refine Kp.drew ?_ | with_reducible refine Kp.drewN ?_ _ | with_reducible refine Kp.alloc ?_ _ | ((with_reducible refine Kp.setCell ?_ ?_ _); rotate_left; (focus (first | omega | (simp; done) | (simp; omega)))) | with_reducible refine Kp.trans ?_ (by assumption))))⟩
    · have e2 : decide (3 < k) = false := decide_eq_false h2
      by_cases h3 : l = 0
      · subst h3
        by_cases h4 : k = 3
        · subst h4
          by_cases h5 : n = 0
          · subst h5
            go_wp2_with fail
            (try go_ret)
            exact ⟨by first | rfl | simp, (by (repeat (first | with_reducible assumption | with_reducible exact Kp.refl _ | with_reducible refine Kp.drew ?_ | with_reducible refine Kp.drewN ?_ _ | with_reducible refine Kp.alloc ?_ _ | ((with_reducible refine Kp.setCell ?_ ?_ _); rotate_left; (focus (first | omega | (simp; done) | (simp; omega)))) | with_reducible refine Kp.trans ?_ (by assumption))))⟩
          · have e5 : (n == 0) = false := beq_eq_false_iff_ne.2 h5
            have e6 : decide (n = 0) = false := decide_eq_false h5
            rw [e5]
            go_wp2_with fail
            (try go_ret)
            exact ⟨by first | rfl | simp, (by (repeat (first | with_reducible assumption | with_reducible exact Kp.refl _ | with_reducible refine Kp.drew ?_ | with_reducible refine Kp.drewN ?_ _ | with_reducible refine Kp.alloc ?_ _ | ((with_reducible refine Kp.setCell ?_ ?_ _); rotate_left; (focus (first | omega | (simp; done) | (simp; omega)))) | with_reducible refine Kp.trans ?_ (by assumption))))⟩
        · have e3 : (k == 3) = false := beq_eq_false_iff_ne.2 h4
          have e4 : decide (k = 3) = false := decide_eq_false h4
          rw [e1, e2, e3]
          go_wp2_with fail
          (try go_ret)
          exact ⟨by first | rfl | simp, (by (repeat (first | with_reducible assumption | with_reducible exact Kp.refl _ | with_reducible refine Kp.drew ?_ | with_reducible refine Kp.drewN ?_ _ | with_reducible refine Kp.alloc ?_ _ | ((with_reducible refine Kp.setCell ?_ ?_ _); rotate_left; (focus (first | omega | (simp; done) | (simp; omega)))) | with_reducible refine Kp.trans ?_ (by assumption))))⟩
      · have e5 : (l == 0) = false := beq_eq_false_iff_ne.2 h3
        have e6 : decide (l = 0) = false := decide_eq_false h3
        rw [e1, e2, e5]
        go_wp2_with fail
        (try go_ret)
        exact ⟨by first | rfl | simp, (by (repeat (first | with_reducible assumption | with_reducible exact Kp.refl _ | with_reducible refine Kp.drew ?_ | with_reducible refine Kp.drewN ?_ _ | with_reducible refine Kp.alloc ?_ _ | ((with_reducible refine Kp.setCell ?_ ?_ _); rotate_left; (focus (first | omega | (simp; done) | (simp; omega)))) | with_reducible refine Kp.trans ?_ (by assumption))))⟩
theorem plainL_puts (l : List Page) : plainL l = (putsOf l).all plainP := by
  unfold plainL putsOf
  rw [List.all_flatMap]
  congr 1
  funext p
  unfold plainPg pagePuts
  rw [List.all_flatMap]
  rfl
set_option maxRecDepth 100000 in
set_option maxHeartbeats 8000000 in
theorem refPlain_any (a : Option Addr) (cap : Nat) (l : List Page) (w : World) (hl : SlOk w 4 Page.cells a l.length cap l) (hg : ∀ y, y ∈ l → y.good w) (hN : (putsOf l).length ≤ 1000000) :
    Calls Tryd.prog 17 #[.slice a l.length cap] w fun e w' => e = .returned (.bool (plainL l)) ∧ Kp w w' := by
  rw [plainL_puts]
  have CP := Lib.hid (refPuts_any a cap l w hl hg hN)
  obtain ⟨ps, hps⟩ : ∃ ps, putsOf l = ps := ⟨_, rfl⟩
  rw [hps] at CP hN ⊢
  clear hl hg hps
  go_enter Tryd.func17, Tryd.ntmps17
  go_wp2_with fail
  refine CP.out.mono ?_
  rintro e w1 ⟨v, rfl, hr, k1⟩
  obtain ⟨va, vc, rfl, hs⟩ := hr.sl (fun _ => rfl)
  have HS := Lib.hid hs
  have hc := hs.2.1
  have hm := hs.2.2.1
  unfold maxLen at hm
  clear hr hs CP
  go_wp2_with fail
  go_loopw [4] (fun v4 wr => ∃ (k : Nat), k ≤ ps.length ∧ v4 = .int .i64 k ∧ (ps.take k).all plainP = true ∧ Kp w1 wr) (fun v4 _ => ps.length - (intOf v4).toNat)
  case atStart => exact ⟨0, Nat.zero_le _, rfl, rfl, (by (repeat (first | with_reducible assumption | with_reducible exact Kp.refl _ | with_reducible refine Kp.drew ?_ | with_reducible refine Kp.drewN ?_ _ | with_reducible refine Kp.alloc ?_ _ | ((with_reducible refine Kp.setCell ?_ ?_ _); rotate_left; (focus (first | omega | (simp; done) | (simp; omega)))) | with_reducible refine Kp.trans ?_ (by assumption))))⟩
  case round =>
    obtain ⟨k, hk, rfl, xa, xk⟩ := hrel
    have XA := Lib.hid xa
    clear xa
    by_cases hlt : k < ps.length
    · obtain ⟨z, hz⟩ : ∃ z, ps[k]? = some z := ⟨ps[k]'hlt, List.getElem?_eq_getElem _⟩
      have HSN := Lib.hid (all_snoc (f := plainP) hz)
      have HNO : Hid (plainP z = false → ps.all plainP = false) := Lib.hid (all_no hz)
      have tl := HS.out.kp xk
      rcases tl.2.2.2 with e | ⟨ga, oa, rfl, hga, r1⟩
      · rw [e] at hlt; simp at hlt
      have PP := Lib.hid (refPlain1_any z)
      obtain ⟨B, hB⟩ : ∃ B, plainP z = B := ⟨_, rfl⟩
      rw [hB] at HSN HNO PP
      obtain ⟨z0, z1, z2, z3, z4⟩ := z
      have e0 := r1 k _ hz 0 _ rfl
      have e1 := r1 k _ hz 1 _ rfl
      have e2 := r1 k _ hz 2 _ rfl
      have e3 := r1 k _ hz 3 _ rfl
      have e4 := r1 k _ hz 4 _ rfl
      simp only [Nat.add_zero] at e0 e1 e2 e3 e4
      have j1 : decide ((k : Int) < (ps.length : Int)) = true := decide_eq_true (by omega)
      simp only at PP
      clear tl r1 hz hB
      go_wp2_with fail
      refine (PP.out _).mono ?_
      rintro e w5 ⟨rfl, k5⟩
      rcases B with _ | _
      · have HNN := Lib.hid (HNO.out rfl)
        clear HNO HSN
        go_wp2_with fail
        (try go_ret)
        exact ⟨by rw [HNN.out]; rfl, k1.trans (((by (repeat (first | with_reducible assumption | with_reducible exact Kp.refl _ | with_reducible refine Kp.drew ?_ | with_reducible refine Kp.drewN ?_ _ | with_reducible refine Kp.alloc ?_ _ | ((with_reducible refine Kp.setCell ?_ ?_ _); rotate_left; (focus (first | omega | (simp; done) | (simp; omega)))) | with_reducible refine Kp.trans ?_ (by assumption)))) : Kp w1 _).trans k5)⟩
      · have HYY : Hid ((ps.take (k + 1)).all plainP = true) := Lib.hid (by rw [HSN.out, XA.out]; rfl)
        clear HNO HSN
        go_wp2_with fail
        go_roundw
        case rel => exact ⟨k + 1, by omega, by go_num, HYY.out, ((by (repeat (first | with_reducible assumption | with_reducible exact Kp.refl _ | with_reducible refine Kp.drew ?_ | with_reducible refine Kp.drewN ?_ _ | with_reducible refine Kp.alloc ?_ _ | ((with_reducible refine Kp.setCell ?_ ?_ _); rotate_left; (focus (first | omega | (simp; done) | (simp; omega)))) | with_reducible refine Kp.trans ?_ (by assumption)))) : Kp w1 _).trans k5⟩
        case measure => simp [intOf]; omega
    · obtain rfl : k = ps.length := by omega
      have j1 : decide ((ps.length : Int) < (ps.length : Int)) = false := decide_eq_false (by omega)
      have HYY : Hid (ps.all plainP = true) := Lib.hid (by
        have := XA.out
        rw [List.take_length] at this
        exact this)
      go_wp2_with fail
      (try go_ret)
      exact ⟨by rw [HYY.out]; rfl, k1.trans xk⟩
end Go.Proofs.YteadhacoglcbfaaDoor
namespace Go.Proofs.YteadhacoglcbfaaDoor

open Go.ChangeShapes Go.WideShapes Go.ChangeAt Go.RowKit Go.Shelf

def plainE (e : LnD) : Bool := e.puts.all plainP
def plainG (d : PgD) : Bool := d.lanes.all plainE
theorem plainL_T (l : List Page) : plainL l = (l.map pageT).all plainG := by
  unfold plainL
  rw [List.all_map]
  congr 1
  funext p
  show p.s.l.all plainLn = (p.s.l.map laneT).all plainE
  rw [List.all_map]
  rfl
theorem map_id_iff {α : Type} {f : α → α} {g : α → Bool} (h : ∀ x, g x = true ↔ f x = x) : ∀ (l : List α), l.all g = true ↔ l.map f = l
  | [] => by simp
  | x :: l => by
    rw [List.all_cons, Bool.and_eq_true, h, map_id_iff h l, List.map_cons, List.cons.injEq]
theorem plainG_iff (d : PgD) : plainG d = true ↔ normPg d = d := by
  obtain ⟨dl, t, f, l⟩ := d
  have he : ∀ e : LnD, plainE e = true ↔ normLn e = e := fun e => by
    obtain ⟨x, ps⟩ := e
    unfold plainE normLn
    rw [LnD.mk.injEq]
    simp only [true_and]
    exact map_id_iff (fun p => eqPut_iff) ps
  unfold plainG normPg
  rw [PgD.mk.injEq]
  simp only [and_true]
  exact map_id_iff he dl
theorem eqL_to_map {α β : Type} {f : α → α → Bool} {g : α → β} (h : ∀ x y, f x y = true → g x = g y) : ∀ {a b : List α}, eqL f a b = true → a.map g = b.map g
  | [], [], _ => rfl
  | x :: a, y :: b, e => by
    unfold eqL at e
    rw [Bool.and_eq_true] at e
    rw [List.map_cons, List.map_cons, h x y e.1, eqL_to_map h e.2]
  | [], _ :: _, e => by unfold eqL at e; cases e
  | _ :: _, [], e => by unfold eqL at e; cases e
theorem eqPages_to {a b : List Page} (h : eqL eqPage a b = true) : a.map pageT = b.map pageT := by
  refine eqL_to_map (fun p q e => ?_) h
  unfold eqPage at e
  simp only [Bool.and_eq_true, beq_iff_eq] at e
  obtain ⟨e1, e2, e3, e4⟩ := e
  unfold pageT
  rw [e1, e2, e3, eqL_to_map (g := laneT) (fun x y e => ?_) e4]
  unfold eqLane at e
  simp only [Bool.and_eq_true, beq_iff_eq] at e
  unfold laneT
  have := eqL_to_map (g := id) (fun p q e => eqPut_iff.1 e) e.2
  rw [List.map_id, List.map_id] at this
  rw [e.1, this]
theorem same_plain {kp l : List Page} (h : kp.map pageT = (l.map pageT).map normPg) : eqL eqPage kp l = plainL l := by
  have hi := map_id_iff plainG_iff (l.map pageT)
  cases hp : plainL l with
  | true =>
    rw [plainL_T] at hp
    exact eqPages_T (h.trans (hi.1 hp))
  | false =>
    cases he : eqL eqPage kp l with
    | false => rfl
    | true =>
      have := eqPages_to he
      rw [this] at h
      have h2 := hi.2 h.symm
      rw [← plainL_T, hp] at h2
      cases h2
/-- Pages that are not more than are gone through, as data. -/
structure SmallD (ds : List PgD) (a b c : Nat) : Prop where
  pages : ds.length ≤ a
  lanes : ∀ d, d ∈ ds → d.lanes.length ≤ b
  puts : ∀ d, d ∈ ds → ∀ e, e ∈ d.lanes → e.puts.length ≤ c
theorem SmallD.norm {ds : List PgD} {a b c : Nat} (h : SmallD ds a b c) : SmallD (ds.map normPg) a b c := by
  refine ⟨by rw [List.length_map]; exact h.pages, fun d hd => ?_, fun d hd e he => ?_⟩
  · obtain ⟨d', h1, rfl⟩ := List.mem_map.1 hd
    show (d'.lanes.map normLn).length ≤ b
    rw [List.length_map]; exact h.lanes d' h1
  · obtain ⟨d', h1, rfl⟩ := List.mem_map.1 hd
    obtain ⟨e', h2, rfl⟩ := List.mem_map.1 (show e ∈ d'.lanes.map normLn from he)
    show (e'.puts.map Put.norm).length ≤ c
    rw [List.length_map]; exact h.puts d' h1 e' h2
theorem SmallD.small {ps : List Page} {ds : List PgD} {a b c : Nat} (h : SmallD ds a b c) (he : ps.map pageT = ds) (ha : a ≤ 3000) (hb : b ≤ 3000) (hc : c ≤ 3000) : Small ps := by
  subst he
  refine ⟨?_, fun p hp => ?_, fun p hp x hx => ?_⟩
  · have := h.pages
    rw [List.length_map] at this
    omega
  · have := h.lanes _ (List.mem_map_of_mem hp)
    have e : (pageT p).lanes.length = p.s.l.length := by unfold pageT; rw [List.length_map]
    omega
  · have := h.puts _ (List.mem_map_of_mem hp) (laneT x) (List.mem_map_of_mem hx)
    have e : (laneT x).puts.length = x.s.l.length := rfl
    omega
theorem smallD_of {l : List Page} (h : largeL l = false) : SmallD (l.map pageT) 40 20 100 := by
  unfold largeL at h
  rw [Bool.or_eq_false_iff] at h
  obtain ⟨h1, h2⟩ := h
  have hl : l.length ≤ 40 := by simpa using h2
  rw [List.take_of_length_le hl, List.any_eq_false] at h1
  refine ⟨by rw [List.length_map]; exact hl, fun d hd => ?_, fun d hd e he => ?_⟩
  · obtain ⟨p, hp, rfl⟩ := List.mem_map.1 hd
    have := h1 p hp
    unfold bigPage at this
    simp only [Bool.not_eq_true, Bool.or_eq_false_iff, decide_eq_false_iff_not] at this
    show (p.s.l.map laneT).length ≤ 20
    rw [List.length_map]
    omega
  · obtain ⟨p, hp, rfl⟩ := List.mem_map.1 hd
    obtain ⟨x, hx, rfl⟩ := List.mem_map.1 (show e ∈ p.s.l.map laneT from he)
    have := h1 p hp
    unfold bigPage at this
    simp only [Bool.not_eq_true, Bool.or_eq_false_iff, decide_eq_false_iff_not, List.any_eq_false] at this
    have := this.2 x hx
    unfold bigLane at this
    show x.s.l.length ≤ 100
    simpa using this
theorem puts_len {l : List Page} (h : largeL l = false) : (putsOf l).length ≤ 1000000 := by
  have hs := smallD_of h
  have h1 : ∀ p, p ∈ l → (pagePuts p).length ≤ 2000 := fun p hp => by
    have hb := hs.lanes _ (List.mem_map_of_mem hp)
    have e : (pageT p).lanes.length = p.s.l.length := by unfold pageT; rw [List.length_map]
    have := flat_bound (C := 100) (f := fun x : Lane => x.s.l) (l := p.s.l) fun x hx => hs.puts _ (List.mem_map_of_mem hp) (laneT x) (List.mem_map_of_mem hx)
    unfold pagePuts
    omega
  have h2 := flat_bound (C := 2000) h1
  have h3 := hs.pages
  rw [List.length_map] at h3
  unfold putsOf
  omega
theorem lines_len {a b c : Nat} : ∀ (ds : List PgD) (i : Nat), SmallD ds a b c → (linesF i ds).length ≤ ds.length * (1 + b * (1 + c))
  | [], _, _ => by simp [linesF]
  | d :: ds, i, h => by
    have ih := lines_len (a := a) (b := b) (c := c) ds (i + 1) ⟨by have := h.pages; rw [List.length_cons] at this; omega, fun d' hd => h.lanes d' (List.mem_cons_of_mem _ hd), fun d' hd => h.puts d' (List.mem_cons_of_mem _ hd)⟩
    unfold linesF
    rw [List.length_append, List.length_cons, Nat.add_mul, Nat.one_mul]
    have h1 : (pageLs i d).length ≤ 1 + b * (1 + c) := by
      unfold pageLs
      have h2 := flat_bound (C := 1 + c) (f := laneLs) (l := d.lanes) fun e he => by
        unfold laneLs
        rw [List.length_cons, List.length_map]
        have := h.puts d List.mem_cons_self e he
        omega
      have h3 := Nat.mul_le_mul_right (1 + c) (h.lanes d List.mem_cons_self)
      rw [List.length_cons]
      omega
    omega
theorem good_ok {w : World} {l : List Page} (hg : ∀ y, y ∈ l → y.good w) : dsOk (l.map pageT) := fun d hd => by
  obtain ⟨p, hp, rfl⟩ := List.mem_map.1 hd
  obtain ⟨h1, h2, h3, _, h5⟩ := hg p hp
  refine ⟨h1, h2, h3, fun e he => ?_⟩
  obtain ⟨x, hx, rfl⟩ := List.mem_map.1 (show e ∈ p.s.l.map laneT from he)
  exact ⟨(h5 x hx).1, (h5 x hx).2.2⟩
theorem norm_dsOk {ds : List PgD} (h : dsOk ds) : dsOk (ds.map normPg) := fun d hd => by
  obtain ⟨d', h1, rfl⟩ := List.mem_map.1 hd
  obtain ⟨o1, o2, o3, o4⟩ := h d' h1
  refine ⟨o1, o2, o3, fun e he => ?_⟩
  obtain ⟨e', h2, rfl⟩ := List.mem_map.1 (show e ∈ d'.lanes.map normLn from he)
  refine ⟨(o4 e' h2).1, fun p hp => ?_⟩
  obtain ⟨q, h3, rfl⟩ := List.mem_map.1 (show p ∈ e'.puts.map Put.norm from hp)
  exact norm_ok ((o4 e' h2).2 q h3)
/-- What the program reads of the text of pages. -/
theorem back_read {l : List Page} {W0 : World} (hS : largeL l = false) (hg : ∀ y, y ∈ l → y.good W0) (W : World) (he : Env W) :
    Calls Tryd.prog 7 #[sv (pagesN l l.length)] W fun e w' => Kp W w' ∧ ∃ a c kp, e = .returned (.tuple #[.slice a kp.length c, .int .i64 0]) ∧ SlOk w' 4 Page.cells a kp.length c kp ∧ (∀ p, p ∈ kp → p.good w') ∧
      Small kp ∧ pagesN kp kp.length = pagesN l l.length ∧ eqL eqPage kp l = plainL l := by
  have hds := smallD_of hS
  have hok := good_ok hg
  have hll := lines_ok (l.map pageT) 0 hok (by have := hds.pages; omega)
  have h10 : ∀ a, a ∈ linesF 0 (l.map pageT) → (10 : UInt8) ∉ a := fun a ha => (hll a ha).1
  have hle : ∀ a, a ∈ linesF 0 (l.map pageT) → a.length ≤ 201 := fun a ha => (hll a ha).2
  have hlen := lines_len (l.map pageT) 0 hds
  have hpn := hds.pages
  have hmul := Nat.mul_le_mul_right (1 + 20 * (1 + 100)) hpn
  have hf := fold_pages (l.map pageT) [] hok (by rw [List.length_nil]; omega)
  rw [List.nil_append, List.length_nil] at hf
  obtain ⟨g1, g2, g3⟩ := glue_good h10 hf
  have ht : glue (linesF 0 (l.map pageT)) = pagesN l l.length := by rw [glue_linesF, pagesN_text]
  have hgl := glue_len hle
  have hli := glue_lines h10 hle
  rw [ht] at g1 g2 g3 hgl hli
  refine (galRead_any (pagesN l l.length) W he (by omega) hli (fun N hN => ?_)).mono ?_
  · rcases Nat.lt_or_ge (linesF 0 (l.map pageT)).length N with h | h
    · exact absurd g2 (hN _ h).1
    · omega
  · rintro e w' ⟨k, N, hgN, hbN, hc⟩
    have hbad : ¬ Good (pagesN l l.length) (linesF 0 (l.map pageT)).length := fun h => h.1 g2
    obtain rfl := good_uniq hgN hbN g1 hbad
    rcases hc with ⟨_, ds, v, hd, rfl, hR⟩ | ⟨hr, _⟩
    · rw [g3] at hd
      cases hd
      obtain ⟨a, c, kp, rfl, hs, hgk, hT⟩ := hR.pages (norm_dsOk hok)
      refine ⟨k, a, c, kp, rfl, hs, hgk, hds.norm.small hT (by omega) (by omega) (by omega), ?_, same_plain hT⟩
      rw [pagesN_text, pagesN_text, hT, text_norm]
    · exact absurd g2 hr
theorem massL_mem {e : LnD} : ∀ {l : List LnD}, e ∈ l → e.puts.length ≤ massL l
  | x :: l, h => by
    have ih := @massL_mem e l
    unfold massL at ih ⊢
    simp only [List.length_cons, List.map_cons, List.sum_cons]
    rcases List.mem_cons.1 h with rfl | h
    · omega
    · have := ih h
      omega
theorem mass_mem {d : PgD} : ∀ {l : List PgD}, d ∈ l → massL d.lanes ≤ mass l
  | x :: l, h => by
    have ih := @mass_mem d l
    unfold mass at ih ⊢
    simp only [List.length_cons, List.map_cons, List.sum_cons]
    rcases List.mem_cons.1 h with rfl | h
    · omega
    · have := ih h
      omega
theorem smallD_mass {ds : List PgD} : SmallD ds (mass ds) (mass ds) (mass ds) :=
  ⟨by unfold mass; omega, fun d hd => Nat.le_trans (by unfold massL; omega) (mass_mem hd), fun d hd e he => Nat.le_trans (massL_mem he) (mass_mem hd)⟩
/-- What the program reads of any text. -/
theorem text_read {s : List UInt8} (hs : s.length ≤ 2000) (W : World) (he : Env W) :
    Calls Tryd.prog 7 #[sv s] W fun e w' => Kp W w' ∧ ((∃ a c mp, e = .returned (.tuple #[.slice a mp.length c, .int .i64 0]) ∧ SlOk w' 4 Page.cells a mp.length c mp ∧ (∀ p, p ∈ mp → p.good w') ∧ Small mp ∧ pagesN mp mp.length = s) ∨
      ∃ n : Nat, n ≤ 2000 ∧ e = .returned (.tuple #[.slice none 0 0, .int .i64 ((n : Int) + 1)])) := by
  refine (galRead_any s W he (by omega) (fun k => by
    have h1 := (cut_le (restK s k)).1
    have h2 := rest_le s k
    unfold lineK
    omega) (fun N hg => by have := rest_len s N hg; omega)).mono ?_
  rintro e w' ⟨k, N, hg, hb, ⟨hr, ds, v, hd, rfl, hR⟩ | ⟨hr, rfl⟩⟩
  · obtain ⟨a, c, mp, rfl, h1, h2, hT⟩ := hR.pages (dsK_ok hd)
    have hm := ds_mass hd
    have hn := rest_len s N hg
    refine ⟨k, .inl ⟨a, c, mp, rfl, h1, h2, (smallD_mass (ds := ds)).small hT (by omega) (by omega) (by omega), ?_⟩⟩
    have := read_text hg hd
    rw [hr, List.append_nil] at this
    rw [pagesN_text, hT]
    exact this
  · have hn := rest_len s N hg
    exact ⟨k, .inr ⟨N, by omega, rfl⟩⟩
end Go.Proofs.YteadhacoglcbfaaDoor
namespace Go.Proofs.YteadhacoglcbfaaDoor

open Go.RowKit

set_option maxRecDepth 100000 in
set_option maxHeartbeats 2000000 in
theorem putcW_any (B b : Nat) (l s : List UInt8) (w : World) (h : Bld B b l w) (hlen : l.length + s.length + 1 ≤ 140737488355328) :
    Calls Tryd.prog 32 #[sv s, .pointer (some ⟨b, 0, none⟩)] w fun e w' => (∃ v, e = .returned v) ∧ Bld B b (l ++ s ++ [10]) w' ∧ Wr B b w w' := by
  have C := Lib.hid (putString B b l s w h (by omega))
  clear h
  go_enter Tryd.func32, Tryd.ntmps32
  go_wp2_with fail
  refine C.out.mono ?_
  rintro e w1 ⟨⟨v, rfl⟩, h1, b1⟩
  go_wp2_with fail
  refine (putByte B b _ 10 10 rfl _ h1 (by simp; omega)).mono ?_
  rintro e w2 ⟨⟨v, rfl⟩, h2, b2⟩
  go_wp2_with fail
  exact ⟨rfl, .tuple #[], (by simp [results, Tryd.results32, go_sem]), ⟨⟨_, rfl⟩, h2, b1.trans b2⟩⟩
end Go.Proofs.YteadhacoglcbfaaDoor
namespace Go.Proofs.YteadhacoglcbfaaDoor

open Go.RowKit

theorem ne_of_sizes {a b : Nat} (h : a < b) : b ≠ a := by omega
set_option maxRecDepth 100000 in
set_option maxHeartbeats 4000000 in
theorem showPages_any (a : Option Addr) (cap : Nat) (l : List Page) (w : World) (he : EnvN w) (hl : SlOk w 4 Page.cells a l.length cap l) (hg : ∀ y, y ∈ l → y.good w) (hs : Small l) :
    Calls Tryd.prog 14 #[.slice a l.length cap] w fun e w' => e = .returned (sv (pagesN l l.length)) ∧ Kp w w' := by
  have HE := Lib.hid he
  have HL := Lib.hid hl
  have HG := Lib.hid hg
  have HS := Lib.hid hs
  have HP := Lib.hid (pagesN_short hs (fun p hp => (hg p hp).num))
  have hl40 := hs.pages
  have hcl := hl.2.1
  have hcm := hl.2.2.1
  unfold maxLen at hcm
  clear he hl hg hs
  go_enter Tryd.func14, Tryd.ntmps14
  go_wp2_with fail
  go_loopw [14] (fun v14 wr => ∃ (k : Nat), k ≤ l.length ∧ v14 = .int .i64 k ∧ Bld w.heap.size w.heap.size (pagesN l k) wr ∧ Kp w wr) (fun v14 _ => l.length - (intOf v14).toNat)
  case atStart => exact ⟨0, Nat.zero_le _, rfl, Bld.new w, (by (repeat (first | with_reducible assumption | with_reducible exact Kp.refl _ | with_reducible refine Kp.drew ?_ | with_reducible refine Kp.drewN ?_ _ | with_reducible refine Kp.alloc ?_ _ | ((with_reducible refine Kp.setCell ?_ ?_ _); rotate_left; (focus (first | omega | (simp; done) | (simp; omega)))) | with_reducible refine Kp.trans ?_ (by assumption))))⟩
  case round =>
    obtain ⟨k, hk, rfl, xb, xk⟩ := hrel
    have hb := xb.lt
    by_cases hlt : k < l.length
    · have hT := HP.out k hk
      obtain ⟨x, hx⟩ : ∃ x, l[k]? = some x := ⟨l[k]'hlt, List.getElem?_eq_getElem _⟩
      have hsn := pagesN_succ hx
      have hmem := List.mem_of_getElem? hx
      have hgx := HG.out x hmem
      have hnum := hgx.num
      have hH := pageH_short k (by omega) x hnum
      have hlan := HS.out.lanes x hmem
      have hput := HS.out.puts x hmem
      obtain ⟨T, hTe⟩ : ∃ T, pagesN l k = T := ⟨_, rfl⟩
      rw [hTe] at xb hT hsn
      have tl := HL.out.kp xk
      rcases tl.2.2.2 with e | ⟨ga, oa, rfl, hga, r1⟩
      · rw [e] at hlt; simp at hlt
      obtain ⟨⟨la, ll, lc, ls⟩, pt, pf, pl⟩ := x
      have d0 := r1 k _ hx 0 _ rfl
      have d1 := r1 k _ hx 1 _ rfl
      have d2 := r1 k _ hx 2 _ rfl
      have d3 := r1 k _ hx 3 _ rfl
      simp only [Nat.add_zero] at d0 d1 d2 d3
      have j1 : decide ((k : Int) < (l.length : Int)) = true := decide_eq_true (by omega)
      have XB := Lib.hid xb
      have HSN := Lib.hid hsn
      have HGX := Lib.hid hgx
      have HI : Hid (∀ x, x ∈ [(k : Int), pt, pf, pl] → I64 x) := Lib.hid (by
        obtain ⟨p1, p2, p3, _⟩ := hnum
        simp only at p1 p2 p3
        intro x hx
        simp only [List.mem_cons, List.not_mem_nil, or_false] at hx
        rcases hx with rfl | rfl | rfl | rfl
        · unfold I64; omega
        · assumption
        · assumption
        · assumption)
      clear tl r1 hx hsn xb hgx hTe
      go_wp2_with fail
      refine (line_any _ _ [112, 97, 103, 101] [(k : Int), pt, pf, pl] _ (HE.out.kp (by (repeat (first | with_reducible assumption | with_reducible exact Kp.refl _ | with_reducible refine Kp.drew ?_ | with_reducible refine Kp.drewN ?_ _ | with_reducible refine Kp.alloc ?_ _ | ((with_reducible refine Kp.setCell ?_ ?_ _); rotate_left; (focus (first | omega | (simp; done) | (simp; omega)))) | with_reducible refine Kp.trans ?_ (by assumption))))).env (sl_blk (t := 2) (by (repeat (first | with_reducible assumption | ((with_reducible refine Blk.newL ?_ ?_); (focus (first | (simp; done) | omega)); rfl) | with_reducible refine Blk.drew ?_ | with_reducible refine Blk.drewN ?_ _ | with_reducible refine Blk.alloc ?_ _ | ((with_reducible refine Blk.other ?_ ?_ _); rotate_left; (focus (first | with_reducible assumption | omega | (simp; done) | (simp; omega))))))) (by simp)) HI.out (by simp) (by simp)).mono ?_
      rintro e w1 ⟨rfl, k1⟩
      have bp : Blk w1 wr.heap.size [.slice la ll lc, .int .i64 pt, .int .i64 pf, .int .i64 pl] 49 := Blk.kp (by (repeat (first | with_reducible assumption | ((with_reducible refine Blk.newL ?_ ?_); (focus (first | (simp; done) | omega)); rfl) | with_reducible refine Blk.drew ?_ | with_reducible refine Blk.drewN ?_ _ | with_reducible refine Blk.alloc ?_ _ | ((with_reducible refine Blk.other ?_ ?_ _); rotate_left; (focus (first | with_reducible assumption | omega | (simp; done) | (simp; omega))))))) k1
      have kw1 : Kp wr w1 := Kp.trans (by (repeat (first | with_reducible assumption | with_reducible exact Kp.refl _ | with_reducible refine Kp.drew ?_ | with_reducible refine Kp.drewN ?_ _ | with_reducible refine Kp.alloc ?_ _ | ((with_reducible refine Kp.setCell ?_ ?_ _); rotate_left; (focus (first | omega | (simp; done) | (simp; omega)))) | with_reducible refine Kp.trans ?_ (by assumption)))) k1
      have xb1 := XB.out.kp kw1
      clear k1
      go_wp2_with fail
      refine (putcW_any _ _ _ _ _ xb1 (by
        unfold pageH at hH; rw [List.length_append, List.length_singleton] at hH; simp only at hH; omega)).mono ?_
      rintro e w2 ⟨⟨v2, rfl⟩, h2, b2⟩
      have bp2 := bp.wr (by decide) (ne_of_sizes hb) b2
      have xk2 : Kp w w2 := b2.kp (xk.trans kw1) (Nat.le_refl _)
      have hw2 : wr.heap.size < w2.heap.size := bp2.lt
      have c0 := bp2.cell 0 rfl
      rw [show T ++ lineL [112, 97, 103, 101] [(k : Int), pt, pf, pl] ++ [10] = T ++ pageH k ⟨⟨la, ll, lc, ls⟩, pt, pf, pl⟩ by unfold pageH; simp] at h2
      obtain ⟨T2, hT2⟩ : ∃ T2, T ++ pageH k ⟨⟨la, ll, lc, ls⟩, pt, pf, pl⟩ = T2 := ⟨_, rfl⟩
      have hT2l : T2.length ≤ 5427900300100 := by rw [← hT2, List.length_append]; omega
      rw [hT2] at h2
      go_wp2_with fail
      go_loopw [33] (fun v33 wr' => ∃ (m : Nat), m ≤ ls.length ∧ v33 = .int .i64 m ∧ Bld w.heap.size w.heap.size (T2 ++ (ls.take m).flatMap laneL) wr' ∧ Kp w wr') (fun v33 _ => ls.length - (intOf v33).toNat)
      case atStart => exact ⟨0, Nat.zero_le _, rfl, by simpa using h2, xk2⟩
      case round =>
        clear h2 xk2 bp2 hw2 c0 b2 kw1 xb1 bp
        obtain ⟨m, hm, rfl, yb, yk⟩ := hrel
        have hb2 := yb.lt
        have hF := flat_bound (C := 603100) (f := laneL) (l := ls.take m) fun z hz => laneL_short z (hnum.2.2.2 z (List.mem_of_mem_take hz)) (hput z (List.mem_of_mem_take hz))
        have hF2 : ((ls.take m).flatMap laneL).length ≤ 1809300000 := by
          rw [List.length_take] at hF
          (try simp only at hlan)
          have : min m ls.length ≤ 3000 := by omega
          omega
        clear hF
        obtain ⟨T3, hT3⟩ : ∃ T3, T2 ++ (ls.take m).flatMap laneL = T3 := ⟨_, rfl⟩
        have hT3l : T3.length ≤ 5500000000000 := by rw [← hT3, List.length_append]; omega
        rw [hT3] at yb
        by_cases hlt2 : m < ls.length
        · obtain ⟨y, hy⟩ : ∃ y, ls[m]? = some y := ⟨ls[m]'hlt2, List.getElem?_eq_getElem _⟩
          have hymem := List.mem_of_getElem? hy
          have hs3 := flat_snoc (f := laneL) hy
          have hsl := HGX.out.2.2.2.1.kp yk
          have hgy := HGX.out.2.2.2.2 y hymem
          have hny := hnum.2.2.2 y hymem
          have hyp := hput y hymem
          have hLH := laneH_short y hny
          simp only at hsl
          have hlen3 := hsl.1
          subst hlen3
          rcases hsl.2.2.2 with e | ⟨gb, ob, rfl, hgb, r2⟩
          · rw [e] at hlt2; simp at hlt2
          obtain ⟨yx, ⟨qa, ql, qc, qs⟩⟩ := y
          have f0 := r2 m _ hy 0 _ rfl
          have f1 := r2 m _ hy 1 _ rfl
          simp only [Nat.add_zero] at f0 f1
          have j2 : decide ((m : Int) < (ls.length : Int)) = true := decide_eq_true (by omega)
          have YB := Lib.hid yb
          have HS3 := Lib.hid hs3
          have HGY := Lib.hid hgy
          have HI2 : Hid (∀ x, x ∈ [yx] → I64 x) := Lib.hid (by
            intro x hx
            simp only [List.mem_cons, List.not_mem_nil, or_false] at hx
            subst hx
            exact hny.1)
          clear hsl r2 hy hs3 yb hgy
          go_wp2_with fail
          refine (line_any _ _ [108, 97, 110, 101] [yx] _ (HE.out.kp (by (repeat (first | with_reducible assumption | with_reducible exact Kp.refl _ | with_reducible refine Kp.drew ?_ | with_reducible refine Kp.drewN ?_ _ | with_reducible refine Kp.alloc ?_ _ | ((with_reducible refine Kp.setCell ?_ ?_ _); rotate_left; (focus (first | omega | (simp; done) | (simp; omega)))) | with_reducible refine Kp.trans ?_ (by assumption))))).env (sl_blk (t := 2) (by (repeat (first | with_reducible assumption | ((with_reducible refine Blk.newL ?_ ?_); (focus (first | (simp; done) | omega)); rfl) | with_reducible refine Blk.drew ?_ | with_reducible refine Blk.drewN ?_ _ | with_reducible refine Blk.alloc ?_ _ | ((with_reducible refine Blk.other ?_ ?_ _); rotate_left; (focus (first | with_reducible assumption | omega | (simp; done) | (simp; omega))))))) (by simp)) HI2.out (by simp) (by simp)).mono ?_
          rintro e w3 ⟨rfl, k3⟩
          have bq : Blk w3 wr.heap.size [.int .i64 yx, .slice qa ql qc] 46 := Blk.kp (by (repeat (first | with_reducible assumption | ((with_reducible refine Blk.newL ?_ ?_); (focus (first | (simp; done) | omega)); rfl) | with_reducible refine Blk.drew ?_ | with_reducible refine Blk.drewN ?_ _ | with_reducible refine Blk.alloc ?_ _ | ((with_reducible refine Blk.other ?_ ?_ _); rotate_left; (focus (first | with_reducible assumption | omega | (simp; done) | (simp; omega))))))) k3
          have kw3 : Kp wr w3 := Kp.trans (by (repeat (first | with_reducible assumption | with_reducible exact Kp.refl _ | with_reducible refine Kp.drew ?_ | with_reducible refine Kp.drewN ?_ _ | with_reducible refine Kp.alloc ?_ _ | ((with_reducible refine Kp.setCell ?_ ?_ _); rotate_left; (focus (first | omega | (simp; done) | (simp; omega)))) | with_reducible refine Kp.trans ?_ (by assumption)))) k3
          have yb1 := YB.out.kp kw3
          clear k3
          go_wp2_with fail
          refine (putcW_any _ _ _ _ _ yb1 (by
            unfold laneH at hLH; rw [List.length_append, List.length_singleton] at hLH; simp only at hLH; omega)).mono ?_
          rintro e w4 ⟨⟨v4, rfl⟩, h4, b4⟩
          have bq2 := bq.wr (by decide) (ne_of_sizes hb2) b4
          have yk2 : Kp w w4 := b4.kp (yk.trans kw3) (Nat.le_refl _)
          have hw4 : wr.heap.size < w4.heap.size := bq2.lt
          have g0' := bq2.cell 1 rfl
          rw [show T3 ++ lineL [108, 97, 110, 101] [yx] ++ [10] = T3 ++ laneH ⟨yx, ⟨qa, ql, qc, qs⟩⟩ by unfold laneH; simp] at h4
          obtain ⟨T4, hT4⟩ : ∃ T4, T3 ++ laneH ⟨yx, ⟨qa, ql, qc, qs⟩⟩ = T4 := ⟨_, rfl⟩
          have hT4l : T4.length ≤ 5500000000100 := by rw [← hT4, List.length_append]; omega
          rw [hT4] at h4
          go_wp2_with fail
          go_loopw [46] (fun v46 wr' => ∃ (q : Nat), q ≤ qs.length ∧ v46 = .int .i64 q ∧ Bld w.heap.size w.heap.size (T4 ++ (qs.take q).flatMap putN) wr' ∧ Kp w wr') (fun v46 _ => qs.length - (intOf v46).toNat)
          case atStart => exact ⟨0, Nat.zero_le _, rfl, by simpa using h4, yk2⟩
          case round =>
            clear h4 yk2 bq2 hw4 g0' b4 kw3 yb1 bq
            obtain ⟨q, hq, rfl, zb, zk⟩ := hrel
            have hb3 := zb.lt
            have hF := flat_bound (C := 201) (f := putN) (l := qs.take q) fun z hz => putN_short z (hny.2 z (List.mem_of_mem_take hz))
            have hF3 : ((qs.take q).flatMap putN).length ≤ 603000 := by
              rw [List.length_take] at hF
              (try simp only at hyp)
              have : min q qs.length ≤ 3000 := by omega
              omega
            clear hF
            obtain ⟨T5, hT5⟩ : ∃ T5, T4 ++ (qs.take q).flatMap putN = T5 := ⟨_, rfl⟩
            have hT5l : T5.length ≤ 5600000000000 := by rw [← hT5, List.length_append]; omega
            rw [hT5] at zb
            have hzl := HGY.out.2.1.kp zk
            simp only at hzl
            have hlen4 := hzl.1
            subst hlen4
            by_cases hlt3 : q < qs.length
            · obtain ⟨z, hz⟩ : ∃ z, qs[q]? = some z := ⟨qs[q]'hlt3, List.getElem?_eq_getElem _⟩
              have hzmem := List.mem_of_getElem? hz
              have hs5 := flat_snoc (f := putN) hz
              have hzok := hny.2 z hzmem
              have hzs := putL_short z hzok
              rcases hzl.2.2.2 with e | ⟨gc, oc, rfl, hgc, r3⟩
              · rw [e] at hlt3; simp at hlt3
              have PP := Lib.hid (put_any z hzok)
              obtain ⟨z0, z1, z2, z3, z4⟩ := z
              have e0 := r3 q _ hz 0 _ rfl
              have e1 := r3 q _ hz 1 _ rfl
              have e2 := r3 q _ hz 2 _ rfl
              have e3 := r3 q _ hz 3 _ rfl
              have e4 := r3 q _ hz 4 _ rfl
              simp only [Nat.add_zero] at e0 e1 e2 e3 e4
              have j3 : decide ((q : Int) < (qs.length : Int)) = true := decide_eq_true (by omega)
              have ZB := Lib.hid zb
              have HS5 := Lib.hid hs5
              obtain ⟨U, hU⟩ : ∃ U, putL ⟨z0, z1, z2, z3, z4⟩ = U := ⟨_, rfl⟩
              have HU : Hid (putN ⟨z0, z1, z2, z3, z4⟩ = U ++ [10]) := Lib.hid (by unfold putN; rw [hU])
              rw [hU] at PP hzs
              simp only at PP
              clear hzl r3 hz hs5 zb hzok
              go_wp2_with fail
              refine (PP.out _ (HE.out.kp (by (repeat (first | with_reducible assumption | with_reducible exact Kp.refl _ | with_reducible refine Kp.drew ?_ | with_reducible refine Kp.drewN ?_ _ | with_reducible refine Kp.alloc ?_ _ | ((with_reducible refine Kp.setCell ?_ ?_ _); rotate_left; (focus (first | omega | (simp; done) | (simp; omega)))) | with_reducible refine Kp.trans ?_ (by assumption)))))).mono ?_
              rintro e w5 ⟨rfl, k5⟩
              have kw5 : Kp wr w5 := Kp.trans (by (repeat (first | with_reducible assumption | with_reducible exact Kp.refl _ | with_reducible refine Kp.drew ?_ | with_reducible refine Kp.drewN ?_ _ | with_reducible refine Kp.alloc ?_ _ | ((with_reducible refine Kp.setCell ?_ ?_ _); rotate_left; (focus (first | omega | (simp; done) | (simp; omega)))) | with_reducible refine Kp.trans ?_ (by assumption)))) k5
              have zb1 := ZB.out.kp kw5
              clear k5
              go_wp2_with fail
              refine (putcW_any _ _ _ _ _ zb1 (by omega)).mono ?_
              rintro e w6 ⟨⟨v6, rfl⟩, h6, b6⟩
              have zk2 : Kp w w6 := b6.kp (zk.trans kw5) (Nat.le_refl _)
              go_wp2_with fail
              go_roundw
              case rel => exact ⟨q + 1, by omega, by go_num, by rw [HS5.out, HU.out, ← List.append_assoc, ← List.append_assoc, hT5]; exact h6, zk2⟩
              case measure => simp [intOf]; omega
            · obtain rfl : q = qs.length := by omega
              have j3 : decide ((qs.length : Int) < (qs.length : Int)) = false := decide_eq_false (by omega)
              rw [List.take_length] at hT5
              have hend : T2 ++ (ls.take (m + 1)).flatMap laneL = T5 := by
                rw [HS3.out, ← List.append_assoc, hT3]
                unfold laneL
                rw [← List.append_assoc, hT4]; exact hT5
              have HEND := Lib.hid hend
              clear hend hzl
              go_wp2_with fail
              go_roundw
              case rel => exact ⟨m + 1, by omega, by go_num, by rw [HEND.out]; exact zb, zk⟩
              case measure => simp [intOf]; omega
        · have hsl := HGX.out.2.2.2.1.1
          simp only at hsl
          subst hsl
          obtain rfl : m = ls.length := by omega
          have j2 : decide ((ls.length : Int) < (ls.length : Int)) = false := decide_eq_false (by omega)
          rw [List.take_length] at hT3
          have hend : pagesN l (k + 1) = T3 := by
            rw [HSN.out]
            unfold pageL
            rw [← List.append_assoc, hT2]; exact hT3
          have HEND := Lib.hid hend
          clear hend
          go_wp2_with fail
          go_roundw
          case rel => exact ⟨k + 1, by omega, by go_num, by rw [HEND.out]; exact yb, yk⟩
          case measure => simp [intOf]; omega
    · obtain rfl : k = l.length := by omega
      have j1 : decide ((l.length : Int) < (l.length : Int)) = false := decide_eq_false (by omega)
      obtain ⟨T, hTe⟩ : ∃ T, pagesN l l.length = T := ⟨_, rfl⟩
      rw [hTe] at xb
      go_wp2_with fail
      refine (getString _ _ _ _ xb).mono ?_
      rintro e w2 ⟨rfl, b2⟩
      have k2 : Kp w w2 := Below.trans xk b2
      clear b2
      go_wp2_with fail
      go_ret
      exact ⟨by rw [hTe]; rfl, k2⟩
end Go.Proofs.YteadhacoglcbfaaDoor
namespace Go.Proofs.YteadhacoglcbfaaDoor

open Go.ChangeShapes Go.WideShapes Go.ChangeAt Go.RowKit Go.Shelf

set_option maxRecDepth 100000 in
set_option maxHeartbeats 8000000 in
theorem galleyBack_main (a : Option Addr) (cap : Nat) (l : List Page) (s : List UInt8) (w : World) (he : EnvN w) (hl : SlOk w 4 Page.cells a l.length cap l) (hg : ∀ y, y ∈ l → y.good w) (hS : largeL l = false) (hs : s.length ≤ 2000) :
    Calls Tryd.prog 5 #[.slice a l.length cap, sv s] w fun e w' => e = .returned (.bool true) ∧ Kp w w' := by
  have CL : Hid (∀ w', Kp w w' → Calls Tryd.prog 13 #[.slice a l.length cap] w' fun e w'' => e = .returned (.bool false) ∧ w'' = w') := Lib.hid fun w' k => by
    have := large_any a l.length cap l w' (hl.kp k) (fun y hy => (hg y hy).kp k)
    rw [hS] at this; exact this
  have CS : Hid (∀ w', Kp w w' → Calls Tryd.prog 14 #[.slice a l.length cap] w' fun e w'' => e = .returned (sv (pagesN l l.length)) ∧ Kp w' w'') := Lib.hid fun w' k => showPages_any a cap l w' (he.kp k) (hl.kp k) (fun y hy => (hg y hy).kp k) (small_of hS)
  have CB := Lib.hid (fun W k => back_read hS hg W (he.env.kp (k : Kp w W)))
  have CT : Hid (∀ w', Kp w w' → Calls Tryd.prog 15 #[.slice a l.length cap] w' fun e w'' => e = .returned (sv (pagesN l l.length)) ∧ Kp w' w'') := Lib.hid fun w' k => refPages_any a cap l w' (hl.kp k) (fun y hy => (hg y hy).kp k) (small_of hS)
  have CP : Hid (∀ w', Kp w w' → Calls Tryd.prog 16 #[.slice a l.length cap] w' fun e w'' => e = .returned (.bool (plainL l)) ∧ Kp w' w'') := Lib.hid fun w' k => galleyPlain_any a cap l w' (he.kp k) (hl.kp k) (fun y hy => (hg y hy).kp k)
  have CQ : Hid (∀ w', Kp w w' → Calls Tryd.prog 17 #[.slice a l.length cap] w' fun e w'' => e = .returned (.bool (plainL l)) ∧ Kp w' w'') := Lib.hid fun w' k => refPlain_any a cap l w' (hl.kp k) (fun y hy => (hg y hy).kp k) (puts_len hS)
  have CM : Hid (∀ w', Kp w w' → ∀ (a1 : Option Addr) (c1 : Nat) (kp : List Page), SlOk w' 4 Page.cells a1 kp.length c1 kp → (∀ p, p ∈ kp → p.good w') → Calls Tryd.prog 9 #[.slice a1 kp.length c1, .slice a l.length cap] w' fun e w'' => e = .returned (.bool (eqL eqPage kp l)) ∧ Kp w' w'') := Lib.hid fun w' k a1 c1 kp h1 h2 => same38_any a1 a c1 cap kp l w' h1 h2 (hl.kp k) (fun y hy => (hg y hy).kp k)
  have CX := Lib.hid (fun W k => text_read hs W (he.env.kp (k : Kp w W)))
  have HE := Lib.hid he
  have CAW : Hid (∀ w', Kp w w' → Calls Tryd.prog 6 #[] w' fun e w'' => e = .returned (.bool true) ∧ Kp w' w'') := Lib.hid fun w' k => awake51_any w' (he.env.kp k)
  have j1 : decide ((2000 : Int) < (s.length : Int)) = false := decide_eq_false (by omega)
  obtain ⟨n, hn⟩ : ∃ n, l.length = n := ⟨_, rfl⟩
  obtain ⟨T, hT⟩ : ∃ T, pagesN l l.length = T := ⟨_, rfl⟩
  obtain ⟨B, hB⟩ : ∃ B, plainL l = B := ⟨_, rfl⟩
  rw [hT] at CS CB CT
  rw [hB] at CP CQ CB
  rw [hn] at CL CS CT CP CQ CM ⊢
  clear hl hg hS hn hT hB he hs
  go_enter Tryd.func5, Tryd.ntmps5
  go_wp2_with fail
  refine (CL.out _ (by (repeat (first | with_reducible assumption | with_reducible exact Kp.refl _ | with_reducible refine Kp.drew ?_ | with_reducible refine Kp.drewN ?_ _ | with_reducible refine Kp.alloc ?_ _ | ((with_reducible refine Kp.setCell ?_ ?_ _); rotate_left; (focus (first | omega | (simp; done) | (simp; omega)))) | with_reducible refine Kp.trans ?_ (by assumption))))).mono ?_
  rintro e w1 ⟨rfl, hw1⟩
  rw [hw1]
  clear hw1 w1
  go_wp2_with fail
  refine (CS.out _ (by (repeat (first | with_reducible assumption | with_reducible exact Kp.refl _ | with_reducible refine Kp.drew ?_ | with_reducible refine Kp.drewN ?_ _ | with_reducible refine Kp.alloc ?_ _ | ((with_reducible refine Kp.setCell ?_ ?_ _); rotate_left; (focus (first | omega | (simp; done) | (simp; omega)))) | with_reducible refine Kp.trans ?_ (by assumption))))).mono ?_
  rintro e w2 ⟨rfl, k2⟩
  have kw2 : Kp w w2 := ((by (repeat (first | with_reducible assumption | with_reducible exact Kp.refl _ | with_reducible refine Kp.drew ?_ | with_reducible refine Kp.drewN ?_ _ | with_reducible refine Kp.alloc ?_ _ | ((with_reducible refine Kp.setCell ?_ ?_ _); rotate_left; (focus (first | omega | (simp; done) | (simp; omega)))) | with_reducible refine Kp.trans ?_ (by assumption)))) : Kp w _).trans k2
  clear k2
  go_wp2_with fail
  refine (CB.out _ kw2).mono ?_
  rintro e w3 ⟨k3, ka, kc, kp, rfl, h1, h2, h3, h4, h5⟩
  have kw3 : Kp w w3 := kw2.trans k3
  have H1 := Lib.hid h1
  have H2 := Lib.hid h2
  have CK : Hid (∀ w', Kp w3 w' → Calls Tryd.prog 15 #[.slice ka kp.length kc] w' fun e w'' => e = .returned (sv T) ∧ Kp w' w'') := Lib.hid fun w' k => by
    have := refPages_any ka kc kp w' (h1.kp k) (fun y hy => (h2 y hy).kp k) h3
    rw [h4] at this; exact this
  have CM2 : Hid (∀ w', Kp w3 w' → Calls Tryd.prog 9 #[.slice ka kp.length kc, .slice a n cap] w' fun e w'' => e = .returned (.bool B) ∧ Kp w' w'') := Lib.hid fun w' k => by
    have := CM.out w' (kw3.trans k) ka kc kp (h1.kp k) (fun y hy => (h2 y hy).kp k)
    rw [h5] at this; exact this
  obtain ⟨kn, hkn⟩ : ∃ n, kp.length = n := ⟨_, rfl⟩
  rw [hkn] at CK CM2 ⊢
  clear k3 h1 h2 h3 h4 h5 CL CS CB hkn
  go_wp2_with fail
  refine (CK.out _ (by (repeat (first | with_reducible assumption | with_reducible exact Kp.refl _ | with_reducible refine Kp.drew ?_ | with_reducible refine Kp.drewN ?_ _ | with_reducible refine Kp.alloc ?_ _ | ((with_reducible refine Kp.setCell ?_ ?_ _); rotate_left; (focus (first | omega | (simp; done) | (simp; omega)))) | with_reducible refine Kp.trans ?_ (by assumption))))).mono ?_
  rintro e w4 ⟨rfl, k4⟩
  have q4 : Kp w3 w4 := ((by (repeat (first | with_reducible assumption | with_reducible exact Kp.refl _ | with_reducible refine Kp.drew ?_ | with_reducible refine Kp.drewN ?_ _ | with_reducible refine Kp.alloc ?_ _ | ((with_reducible refine Kp.setCell ?_ ?_ _); rotate_left; (focus (first | omega | (simp; done) | (simp; omega)))) | with_reducible refine Kp.trans ?_ (by assumption)))) : Kp w3 _).trans k4
  go_wp2_with fail
  refine (CT.out _ (kw3.trans q4)).mono ?_
  rintro e w5 ⟨rfl, k5⟩
  have q5 : Kp w3 w5 := q4.trans k5
  go_wp2_with fail
  refine (CP.out _ (kw3.trans q5)).mono ?_
  rintro e w6 ⟨rfl, k6⟩
  have q6 : Kp w3 w6 := q5.trans k6
  go_wp2_with fail
  refine (CQ.out _ (kw3.trans q6)).mono ?_
  rintro e w7 ⟨rfl, k7⟩
  have q7 : Kp w3 w7 := q6.trans k7
  clear k4 k5 k6 k7 q4 q5 q6
  go_wp2_with fail
  refine (CP.out _ (kw3.trans q7)).mono ?_
  rintro e w8 ⟨rfl, k8⟩
  have q8 : Kp w3 w8 := q7.trans k8
  go_wp2_with fail
  refine (CM2.out _ q8).mono ?_
  rintro e w9 ⟨rfl, k9⟩
  have q9 : Kp w w9 := kw3.trans (q8.trans k9)
  clear k8 k9 q7 q8 kw2 CK CM CM2 CP CQ CT H1 H2
  go_wp2_with fail
  refine (CX.out _ q9).mono ?_
  rintro e w10 ⟨k10, ⟨ma, mc, mp, rfl, h1, h2, h3, h4⟩ | ⟨m, hm, rfl⟩⟩
  · have kw10 := q9.trans k10
    have CY : Hid (∀ w', Kp w10 w' → Calls Tryd.prog 14 #[.slice ma mp.length mc] w' fun e w'' => e = .returned (sv s) ∧ Kp w' w'') := Lib.hid fun w' k => by
      have := showPages_any ma mc mp w' (HE.out.kp (kw10.trans k)) (h1.kp k) (fun y hy => (h2 y hy).kp k) h3
      rw [h4] at this; exact this
    clear h1 h2 h3 h4 k10
    go_wp2_with fail
    refine (CY.out _ (by (repeat (first | with_reducible assumption | with_reducible exact Kp.refl _ | with_reducible refine Kp.drew ?_ | with_reducible refine Kp.drewN ?_ _ | with_reducible refine Kp.alloc ?_ _ | ((with_reducible refine Kp.setCell ?_ ?_ _); rotate_left; (focus (first | omega | (simp; done) | (simp; omega)))) | with_reducible refine Kp.trans ?_ (by assumption))))).mono ?_
    rintro e w11 ⟨rfl, k11⟩
    have q11 : Kp w w11 := kw10.trans (((by (repeat (first | with_reducible assumption | with_reducible exact Kp.refl _ | with_reducible refine Kp.drew ?_ | with_reducible refine Kp.drewN ?_ _ | with_reducible refine Kp.alloc ?_ _ | ((with_reducible refine Kp.setCell ?_ ?_ _); rotate_left; (focus (first | omega | (simp; done) | (simp; omega)))) | with_reducible refine Kp.trans ?_ (by assumption)))) : Kp w10 _).trans k11)
    go_wp2_with fail
    refine (CAW.out _ q11).mono ?_
    rintro e w12 ⟨rfl, k12⟩
    go_wp2_with fail
    (try go_ret)
    exact ⟨by first | rfl | simp, q11.trans k12⟩
  · have kw10 := q9.trans k10
    have j2 : decide ((m : Int) + 1 = 0) = false := decide_eq_false (by omega)
    have j3 : (((m : Int) + 1) == 0) = false := beq_eq_false_iff_ne.2 (by omega)
    clear k10
    go_wp2_with fail
    refine (CAW.out _ (kw10.trans (by (repeat (first | with_reducible assumption | with_reducible exact Kp.refl _ | with_reducible refine Kp.drew ?_ | with_reducible refine Kp.drewN ?_ _ | with_reducible refine Kp.alloc ?_ _ | ((with_reducible refine Kp.setCell ?_ ?_ _); rotate_left; (focus (first | omega | (simp; done) | (simp; omega)))) | with_reducible refine Kp.trans ?_ (by assumption)))))).mono ?_
    rintro e w12 ⟨rfl, k12⟩
    go_wp2_with fail
    (try go_ret)
    exact ⟨by first | rfl | simp, kw10.trans (((by (repeat (first | with_reducible assumption | with_reducible exact Kp.refl _ | with_reducible refine Kp.drew ?_ | with_reducible refine Kp.drewN ?_ _ | with_reducible refine Kp.alloc ?_ _ | ((with_reducible refine Kp.setCell ?_ ?_ _); rotate_left; (focus (first | omega | (simp; done) | (simp; omega)))) | with_reducible refine Kp.trans ?_ (by assumption)))) : Kp w10 _).trans k12)⟩
set_option maxHeartbeats 2000000 in
theorem galleyBack_far (a : Option Addr) (cap : Nat) (l : List Page) (s : List UInt8) (w : World) (he : EnvN w) (hl : SlOk w 4 Page.cells a l.length cap l) (hg : ∀ y, y ∈ l → y.good w) (h : largeL l = true ∨ 2000 < s.length) (h2 : s.length ≤ 9223372036854775807) :
    Calls Tryd.prog 5 #[.slice a l.length cap, sv s] w fun e w' => e = .returned (.bool true) ∧ Kp w w' := by
  have CL : Hid (∀ w', Kp w w' → Calls Tryd.prog 13 #[.slice a l.length cap] w' fun e w'' => e = .returned (.bool (largeL l)) ∧ w'' = w') := Lib.hid fun w' k => large_any a l.length cap l w' (hl.kp k) (fun y hy => (hg y hy).kp k)
  have CAW : Hid (∀ w', Kp w w' → Calls Tryd.prog 6 #[] w' fun e w'' => e = .returned (.bool true) ∧ Kp w' w'') := Lib.hid fun w' k => awake51_any w' (he.env.kp k)
  obtain ⟨B, hB⟩ : ∃ B, largeL l = B := ⟨_, rfl⟩
  rw [hB] at CL h
  clear he hl hg hB
  go_enter Tryd.func5, Tryd.ntmps5
  go_wp2_with fail
  refine (CL.out _ (by (repeat (first | with_reducible assumption | with_reducible exact Kp.refl _ | with_reducible refine Kp.drew ?_ | with_reducible refine Kp.drewN ?_ _ | with_reducible refine Kp.alloc ?_ _ | ((with_reducible refine Kp.setCell ?_ ?_ _); rotate_left; (focus (first | omega | (simp; done) | (simp; omega)))) | with_reducible refine Kp.trans ?_ (by assumption))))).mono ?_
  rintro e w1 ⟨rfl, hw1⟩
  rw [hw1]
  clear hw1 w1
  rcases B with _ | _
  · have h3 : 2000 < s.length := by
      rcases h with h | h
      · cases h
      · exact h
    have j1 : decide ((2000 : Int) < (s.length : Int)) = true := decide_eq_true (by omega)
    have j2 : decide (2000 < s.length) = true := decide_eq_true (by omega)
    clear h
    go_wp2_with fail
    refine (CAW.out _ (by (repeat (first | with_reducible assumption | with_reducible exact Kp.refl _ | with_reducible refine Kp.drew ?_ | with_reducible refine Kp.drewN ?_ _ | with_reducible refine Kp.alloc ?_ _ | ((with_reducible refine Kp.setCell ?_ ?_ _); rotate_left; (focus (first | omega | (simp; done) | (simp; omega)))) | with_reducible refine Kp.trans ?_ (by assumption))))).mono ?_
    rintro e w2 ⟨rfl, k2⟩
    go_wp2_with fail
    (try go_ret)
    exact ⟨rfl, ((by (repeat (first | with_reducible assumption | with_reducible exact Kp.refl _ | with_reducible refine Kp.drew ?_ | with_reducible refine Kp.drewN ?_ _ | with_reducible refine Kp.alloc ?_ _ | ((with_reducible refine Kp.setCell ?_ ?_ _); rotate_left; (focus (first | omega | (simp; done) | (simp; omega)))) | with_reducible refine Kp.trans ?_ (by assumption)))) : Kp w _).trans k2⟩
  · clear h
    go_wp2_with fail
    refine (CAW.out _ (by (repeat (first | with_reducible assumption | with_reducible exact Kp.refl _ | with_reducible refine Kp.drew ?_ | with_reducible refine Kp.drewN ?_ _ | with_reducible refine Kp.alloc ?_ _ | ((with_reducible refine Kp.setCell ?_ ?_ _); rotate_left; (focus (first | omega | (simp; done) | (simp; omega)))) | with_reducible refine Kp.trans ?_ (by assumption))))).mono ?_
    rintro e w2 ⟨rfl, k2⟩
    go_wp2_with fail
    (try go_ret)
    exact ⟨rfl, ((by (repeat (first | with_reducible assumption | with_reducible exact Kp.refl _ | with_reducible refine Kp.drew ?_ | with_reducible refine Kp.drewN ?_ _ | with_reducible refine Kp.alloc ?_ _ | ((with_reducible refine Kp.setCell ?_ ?_ _); rotate_left; (focus (first | omega | (simp; done) | (simp; omega)))) | with_reducible refine Kp.trans ?_ (by assumption)))) : Kp w _).trans k2⟩
theorem galleyBack_row (x : SlV Page) (a : ByteArray) (w : World) (h : SlOk w 4 Page.cells x.a x.len x.cap x.l ∧ ∀ y, y ∈ x.l → y.good w) (ha : a.size ≤ 140737488351232) (he : EnvN w) :
    Calls Tryd.prog 5 #[x.v, .string a] w fun e w' => e = .returned (.bool true) ∧ Kp w w' := by
  obtain ⟨⟨l⟩⟩ := a
  have hl : l.length ≤ 140737488351232 := ha
  obtain ⟨xa, xn, xc, xl⟩ := x
  obtain ⟨hs, hg⟩ := h
  have hn := hs.1
  simp only at hn hs hg
  subst hn
  by_cases h1 : largeL xl = true
  · exact galleyBack_far xa xc xl l w he hs hg (.inl h1) (by omega)
  · by_cases h2 : 2000 < l.length
    · exact galleyBack_far xa xc xl l w he hs hg (.inr h2) (by omega)
    · exact galleyBack_main xa xc xl l w he hs hg (by simpa using h1) (by omega)
end Go.Proofs.YteadhacoglcbfaaDoor
