/- Numbers in rows: the program's and the document's. -/
import Derived.Test.YtkgfnkfgmnijbaaDoorEnvT

import Derived.Test.YtkgfnkfgmnijbaaDoorMark2

namespace Go.Proofs.YtkgfnkfgmnijbaaDoor

open Go.RowKit

theorem flatMap_len {α : Type} {enc : α → List Value} {n : Nat} (hn : ∀ x, (enc x).length = n) : ∀ (l : List α), (l.flatMap enc).length = l.length * n
  | [] => by simp
  | y :: l => by rw [List.flatMap_cons, List.length_append, hn, flatMap_len hn l, List.length_cons, Nat.add_mul]; omega
theorem flatMap_set {α : Type} {enc : α → List Value} {n : Nat} (hn : ∀ x, (enc x).length = n) : ∀ {l : List α} {k : Nat} {x y : α} {j : Nat} {u : Value}, l[k]? = some x → j < n → enc y = (enc x).set j u → (l.set k y).flatMap enc = (l.flatMap enc).set (k * n + j) u
  | [], k, x, y, j, u, h, _, _ => by simp at h
  | z :: l, 0, x, y, j, u, h, hj, he => by
    simp only [List.getElem?_cons_zero, Option.some.injEq] at h
    subst h
    rw [List.set_cons_zero, List.flatMap_cons, List.flatMap_cons, he, Nat.zero_mul, Nat.zero_add, List.set_append_left _ _ (by rw [hn]; exact hj)]
  | z :: l, k + 1, x, y, j, u, h, hj, he => by
    rw [List.getElem?_cons_succ] at h
    rw [List.set_cons_succ, List.flatMap_cons, List.flatMap_cons, flatMap_set hn h hj he, List.set_append_right _ _ (by rw [hn, Nat.add_mul]; omega), hn]
    congr 2
    rw [Nat.add_mul]; omega
theorem Row.shape {α : Type} {w : World} {base n : Nat} {e : TypeId} {enc : α → List Value} {v : Value} {l : List α} (h : Row w base e n enc v l) (hl : 0 < l.length) : ∃ g cap, v = .slice (some ⟨g, 0, none⟩) l.length cap ∧ base ≤ g ∧ g < w.heap.size ∧ l.length ≤ cap ∧ cap ≤ maxLen := by
  rcases h.2 with ⟨_, h0⟩ | ⟨g, cap, cur, hv, hb, hg, hc, hm, _⟩
  · omega
  · exact ⟨g, cap, hv, hb, (Array.getElem?_eq_some_iff.1 hg).1, hc, hm⟩
theorem Row.cellN {α : Type} {w : World} {base n : Nat} {e : TypeId} {enc : α → List Value} {v : Value} {l : List α} (hn : ∀ x, (enc x).length = n) (h : Row w base e n enc v l) {g len cap : Nat} (hv : v = .slice (some ⟨g, 0, none⟩) len cap) {k : Nat} {x : α} (hx : l[k]? = some x) {j : Nat} {u : Value} (hu : (enc x)[j]? = some u) : w.cell? ⟨g, k * n + j, none⟩ = some u := by
  have := World.ownsRow.cells h (g := g) (by rw [hv]; rfl) _ _ (flatMap_get hn l k x j u hx hu)
  have hadd : (⟨g, 0, none⟩ : Addr).add (k * n + j) = ⟨g, k * n + j, none⟩ := by unfold Addr.add; split <;> simp_all
  rwa [hadd] at this
theorem Row.freeN {α : Type} {w : World} {base n : Nat} {e : TypeId} {enc : α → List Value} {v : Value} {l : List α} (h : Row w base e n enc v l) {g len cap : Nat} (hv : v = .slice (some ⟨g, 0, none⟩) len cap) (k : Nat) : w.frozen? ⟨g, k, none⟩ = false := by
  rcases h.2 with ⟨h0, _⟩ | ⟨g', cap', cur, h1, _, hg, _⟩
  · rw [h0] at hv; cases hv
  · rw [h1] at hv; cases hv
    simp [World.frozen?, hg]
/-- A cell of a row is turned. -/
theorem Row.setN {α : Type} {w : World} {base n : Nat} {e : TypeId} {enc : α → List Value} {v : Value} {l : List α} (hn : ∀ x, (enc x).length = n) (h : Row w base e n enc v l) {g len cap : Nat} (hv : v = .slice (some ⟨g, 0, none⟩) len cap) {k : Nat} {x y : α} (hx : l[k]? = some x) {j : Nat} {u : Value} (hj : j < n) (he : enc y = (enc x).set j u) :
    Row (w.setCell ⟨g, k * n + j, none⟩ u) base e n enc v (l.set k y) := by
  have hs := flatMap_set hn hx hj he
  obtain ⟨h0, h1⟩ := h
  refine ⟨by rw [hs, List.length_set, List.length_set]; exact h0, ?_⟩
  rcases h1 with ⟨h1, _⟩ | ⟨g', cap', cur, h1, hb, hg, hc, hm, hsz, ht⟩
  · rw [h1] at hv; cases hv
  · rw [h1] at hv; cases hv
    refine .inr ⟨g, _, (cur.toList.set (k * n + j) u).toArray, by rw [h1, List.length_set], hb, ?_, by rw [List.length_set]; exact hc, hm, by simpa using hsz, ?_⟩
    · have hB : Blk w g cur.toList e := ⟨by simpa using hg⟩
      exact (hB.set (k * n + j) u).heap
    · rw [List.length_set, List.toList_toArray, List.take_set, ht, hs]

/-- 'out = append(out, y)', the operation by itself. -/
theorem rowAppendW {α : Type} {o : Oper} {a : Act} {w : World} {K : Act → World → Prop} {Q : Exit → Act → World → Prop} (s x : Operand) (t : TypeId)
    (ho : o.op = .call { callee := .builtin .append, args := #[s, x], argTypes := #[t, t] }) {base : Nat} {e : TypeId} {z : Value} {n bytes : Nat} (ht : Tryd.prog.underlying t = some (.slice e))
    (hinfo : (Tryd.prog.info? e).map (fun i => (i.zero, i.size, i.bytes)) = some (some z, n, bytes)) (hzs : z.cells.size = n) (hsz : 0 < n)
    {v : Value} {l : List α} {enc : α → List Value} (hrow : Row w base e n enc v l) (hs : a.eval s = v) {y : α} (hy : (enc y).length = n) (h1 : ∀ u ∈ enc y, u.oneCell' = true) {b : Nat} {t' : TypeId} (hb : Blk w b (enc y) t')
    (hx : a.eval x = .slice (some ⟨b, 0, none⟩) 1 1) (hlen : l.length + 1 ≤ maxLen) (hbytes : (l.length + 1) * bytes ≤ 140737488355328) (hbase : base ≤ w.heap.size)
    (h : ∀ v' w', Row w' base e n enc v' (l ++ [y]) → (∀ {W : World}, W.heap.size ≤ base → Kp W w → Kp W w') → w.heap.size ≤ w'.heap.size → K (a.put o.dst v') w') : o.wp Tryd.prog a w K Q := by
  obtain ⟨i0, hi, hz0, hz1, hz2⟩ := info_parts hinfo
  refine wp_append_own w s x t ho base e i0 z n bytes ht hi hz0 hz1 hz2 hzs hsz v l.length _ hs hrow ⟨b, 0, none⟩ 1 1 (enc y) hx (by rw [hy, Nat.one_mul]) (fun j u hu => ?_) h1 hlen hbytes hbase ?_
  · have hadd : (⟨b, 0, none⟩ : Addr).add j = ⟨b, j, none⟩ := by unfold Addr.add; split <;> simp_all
    rw [hadd]; exact hb.cell j hu
  · intro v' w' hown hgrow _
    have hr : ∀ k, v.ownBlock = some k → base ≤ k := fun k hk => (hrow.lt k hk).1
    refine h v' w' ?_ (fun {W} hW kW => Below.grown kW hgrow kW.size (fun k hk => Nat.le_trans hW (hr k hk))) hgrow.size
    unfold Row
    rw [List.length_append, List.flatMap_append]
    simpa using hown
/-- What was there in w reads in w' as in u. -/
theorem lo_of {w u w' : World} (ku : Kp w u) (k : Kp w w') : (∀ b o, b < w.heap.size → w'.cell? ⟨b, o, none⟩ = u.cell? ⟨b, o, none⟩) ∧ Kp w w' :=
  ⟨fun b o hb => (k.cell (p := ⟨b, o, none⟩) hb).trans (ku.cell (p := ⟨b, o, none⟩) hb).symm, k⟩

structure Rn where
  f : Int
  t : Int
def encR (x : Rn) : List Value := [.int .i64 x.f, .int .i64 x.t]
def runStep (rs : List Rn) (p : Int) : List Rn :=
  match rs.getLast? with
  | none => [⟨p, p⟩]
  | some r => if r.t + 1 = p then rs.set (rs.length - 1) ⟨r.f, p⟩ else rs ++ [⟨p, p⟩]
def runsL (l : List Int) : List Rn := l.foldl runStep []
theorem runsL_snoc {l : List Int} {k : Nat} {x : Int} (h : l[k]? = some x) : runsL (l.take (k + 1)) = runStep (runsL (l.take k)) x := by
  unfold runsL
  rw [List.take_add_one, h, List.foldl_append]; simp
theorem runStep_length (rs : List Rn) (p : Int) : (runStep rs p).length ≤ rs.length + 1 := by
  unfold runStep
  split
  · simp
  · split
    · rw [List.length_set]; omega
    · simp
theorem runs_length : ∀ (l : List Int) (rs : List Rn), (l.foldl runStep rs).length ≤ rs.length + l.length
  | [], rs => by simp
  | x :: l, rs => by
    rw [List.foldl_cons]
    have := runs_length l (runStep rs x)
    have := runStep_length rs x
    rw [List.length_cons]; omega
theorem runStep_in {P : Int → Prop} {rs : List Rn} (h : ∀ r, r ∈ rs → P r.f ∧ P r.t) {p : Int} (hp : P p) : ∀ r, r ∈ runStep rs p → P r.f ∧ P r.t := by
  intro r hr
  unfold runStep at hr
  split at hr
  · simp only [List.mem_singleton] at hr; subst hr; exact ⟨hp, hp⟩
  · next r0 h0 =>
    have hm := List.mem_of_getLast? h0
    split at hr
    · rcases List.mem_or_eq_of_mem_set hr with hr | rfl
      · exact h r hr
      · exact ⟨(h r0 hm).1, hp⟩
    · rcases List.mem_append.1 hr with hr | hr
      · exact h r hr
      · simp only [List.mem_singleton] at hr; subst hr; exact ⟨hp, hp⟩
theorem runs_in {P : Int → Prop} : ∀ (l : List Int) (rs : List Rn), (∀ r, r ∈ rs → P r.f ∧ P r.t) → (∀ x, x ∈ l → P x) → ∀ r, r ∈ l.foldl runStep rs → P r.f ∧ P r.t
  | [], _, h, _ => h
  | x :: l, rs, h, hl => by
    rw [List.foldl_cons]
    exact runs_in l _ (runStep_in h (hl x List.mem_cons_self)) fun y hy => hl y (List.mem_cons_of_mem _ hy)
theorem infoR1 : (Tryd.prog.info? 33).map (fun i => (i.zero, i.size, i.bytes)) = some (some (.agg #[.int .i64 0, .int .i64 0]), 2, 16) := by kernel_rfl
theorem infoR2 : (Tryd.prog.info? 34).map (fun i => (i.zero, i.size, i.bytes)) = some (some (.agg #[.int .i64 0, .int .i64 0]), 2, 16) := by kernel_rfl
theorem encR_one : ∀ y, ∀ u ∈ encR y, u.oneCell' = true := fun y u hu => by
  simp only [encR, List.mem_cons, List.not_mem_nil, or_false] at hu
  rcases hu with rfl | rfl <;> rfl
set_option maxRecDepth 100000 in
set_option maxHeartbeats 4000000 in
theorem runs_any (a : Option Addr) (cap : Nat) (l : List Int) (w : World) (hl : SlOk w 1 enc1 a l.length cap l) (h1 : l.length ≤ 100000) (hb : ∀ x, x ∈ l → I64 x ∧ x ≠ 9223372036854775807) :
    Calls Tryd.prog 8 #[.slice a l.length cap] w fun e w' => ∃ v, e = .returned v ∧ Row w' w.heap.size 33 2 encR v (runsL l) ∧ Kp w w' := by
  have HL := Lib.hid hl
  have HB := Lib.hid hb
  have hcl := hl.2.1
  have hcm := hl.2.2.1
  unfold maxLen at hcm
  clear hl hb
  go_enter Tryd.func8, Tryd.ntmps8
  go_wp2_with fail
  go_loopw [3, 9] (fun vo vi wr => ∃ (k : Nat), k ≤ l.length ∧ vi = .int .i64 k ∧ Row wr w.heap.size 33 2 encR vo (runsL (l.take k)) ∧ Kp w wr) (fun _ vi _ => l.length - (intOf vi).toNat)
  case atStart => exact ⟨0, Nat.zero_le _, rfl, Row.nil _ _ _ _ _, (by (repeat (first | with_reducible assumption | with_reducible exact Kp.refl _ | with_reducible refine Kp.drew ?_ | with_reducible refine Kp.drewN ?_ _ | with_reducible refine Kp.alloc ?_ _ | ((with_reducible refine Kp.setCell ?_ ?_ _); rotate_left; (focus (first | omega | (simp; done) | (simp; omega)))) | with_reducible refine Kp.trans ?_ (by assumption))))⟩
  case round =>
    obtain ⟨k, hk, rfl, xr, xk⟩ := hrel
    by_cases hlt : k < l.length
    · obtain ⟨x, hx⟩ : ∃ x, l[k]? = some x := ⟨l[k]'hlt, List.getElem?_eq_getElem _⟩
      have hsn := runsL_snoc hx
      have hrl := runs_length (l.take k) []
      have hri := runs_in (P := fun x => I64 x ∧ x ≠ 9223372036854775807) (l.take k) [] (fun r hr => by cases hr) fun y hy => HB.out y (List.mem_of_mem_take hy)
      have hxb := HB.out x (List.mem_of_getElem? hx)
      have tl := HL.out.kp xk
      rcases tl.2.2.2 with e | ⟨ga, oa, rfl, hga, r1⟩
      · rw [e] at hlt; simp at hlt
      have d0 := r1 k _ hx 0 _ rfl
      simp only [Nat.add_zero, Nat.mul_one] at d0
      have j1 : decide ((k : Int) < (l.length : Int)) = true := decide_eq_true (by omega)
      change (runsL (l.take k)).length ≤ _ at hrl
      change ∀ r, r ∈ runsL (l.take k) → _ at hri
      obtain ⟨rs, hrs⟩ : ∃ rs, runsL (l.take k) = rs := ⟨_, rfl⟩
      rw [hrs] at xr hsn hrl hri
      rw [List.length_take, List.length_nil] at hrl
      clear tl r1 hx hrs
      rcases Nat.eq_zero_or_pos rs.length with hz | hp
      · have e0 : rs = [] := List.eq_nil_of_length_eq_zero hz
        subst e0
        have hsn2 : runsL (l.take (k + 1)) = [] ++ [⟨x, x⟩] := hsn
        have HSN := Lib.hid hsn2
        obtain ⟨sa, sc, rfl, _⟩ := xr.sl (fun _ => rfl)
        have XR := Lib.hid xr
        clear hsn hsn2 hri xr hz
        go_wp2_with (at_builtin; refine rowAppend ?gd (.tmp 33) (.tmp 37) 28 ?ho Tryd.underlying28 infoR1 rfl (by decide) (XR.out.alloc _) ?hs (y := ⟨x, x⟩) rfl (encR_one _) (Blk.new _ _ 33) ?hx ?hl ?hb ?hz ?_; (case gd => rfl); (case ho => rfl); (case hs => rfl); (case hx => rfl); (case hl => unfold maxLen; omega); (case hb => omega); (case hz => have := xk.size; simp; omega); intro v' w' hr' hkk _ hsz _)
        go_roundw
        case rel => exact ⟨k + 1, by omega, by go_num, by rw [HSN.out]; exact hr', hkk (Nat.le_refl _) (xk.alloc _)⟩
        case measure => simp [intOf]; omega
      · obtain ⟨r, hr⟩ : ∃ r, rs.getLast? = some r := by
          rcases hg : rs.getLast? with _ | r
          · rw [List.getLast?_eq_none_iff] at hg; rw [hg] at hp; simp at hp
          · exact ⟨r, rfl⟩
        have hrb := (hri r (List.mem_of_getLast? hr)).2
        rw [List.getLast?_eq_getElem?] at hr
        obtain ⟨g, sc, rfl, hgb, hgl, hsc, hsm⟩ := xr.shape hp
        unfold maxLen at hsm
        have c1 := Row.cellN (enc := encR) (n := 2) (fun _ => rfl) xr rfl hr (j := 1) (u := .int .i64 r.t) rfl
        have fz := xr.freeN rfl ((rs.length - 1) * 2 + 1)
        obtain ⟨rf, rt⟩ := r
        simp only at c1 hrb
        have hst : runStep rs x = if rt + 1 = x then rs.set (rs.length - 1) ⟨rf, x⟩ else rs ++ [⟨x, x⟩] := by
          unfold runStep
          rw [List.getLast?_eq_getElem?, hr]
        rw [hst] at hsn
        obtain ⟨⟨hb1, hb2⟩, hb3⟩ := hrb
        have e1 : IntKind.i64.wrap (rt + 1) = rt + 1 := by unfold IntKind.wrap; simp [IntKind.bits, IntKind.signed]; omega
        have HR := Lib.hid hr
        obtain ⟨n, hn⟩ : ∃ n, rs.length = n + 1 := ⟨rs.length - 1, by omega⟩
        have hn1 : rs.length - 1 = n := by omega
        rw [hn1] at c1 fz hsn HR
        rw [hn] at xr hsc
        rw [hn]
        have XR := Lib.hid xr
        have hnl : n + 1 ≤ l.length := by omega
        clear xr hst hri hr hp hrl hn1
        by_cases hc : rt + 1 = x
        · rw [if_pos hc] at hsn
          have HSN := Lib.hid hsn
          subst hc
          clear hsn hn
          go_wp2_with fail
          go_roundw
          case rel => exact ⟨k + 1, by omega, by go_num, by rw [HSN.out]; exact Row.setN (enc := encR) (n := 2) (fun _ => rfl) XR.out rfl HR.out (j := 1) (by decide) rfl, xk.setCell hgb _⟩
          case measure => simp [intOf]; omega
        · rw [if_neg hc] at hsn
          have HSN := Lib.hid hsn
          have e2 : (rt + 1 == x) = false := by simpa using hc
          have hrl2 : rs.length ≤ 100000 := by omega
          clear hsn hn
          go_wp2_with (at_builtin; refine rowAppend ?gd (.tmp 33) (.tmp 37) 28 ?ho Tryd.underlying28 infoR1 rfl (by decide) (XR.out.alloc _) ?hs (y := ⟨x, x⟩) rfl (encR_one _) (Blk.new _ _ 33) ?hx ?hl ?hb ?hz ?_; (case gd => rfl); (case ho => rfl); (case hs => rfl); (case hx => rfl); (case hl => unfold maxLen; omega); (case hb => omega); (case hz => have := xk.size; simp; omega); intro v' w' hr' hkk _ hsz _)
          go_roundw
          case rel => exact ⟨k + 1, by omega, by go_num, by rw [HSN.out]; exact hr', hkk (Nat.le_refl _) (xk.alloc _)⟩
          case measure => simp [intOf]; omega
    · obtain rfl : k = l.length := by omega
      have j1 : decide ((l.length : Int) < (l.length : Int)) = false := decide_eq_false (by omega)
      rw [List.take_length] at xr
      have XR := Lib.hid xr
      clear xr
      go_wp2_with fail
      (try go_ret)
      exact ⟨_, rfl, XR.out, xk⟩
end Go.Proofs.YtkgfnkfgmnijbaaDoor
