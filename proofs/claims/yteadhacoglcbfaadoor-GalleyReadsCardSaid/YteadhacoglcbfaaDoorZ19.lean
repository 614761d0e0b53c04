/- Part 19 of the proof: Pages that were read, as pages: two readings of the same data are the same. A galley: texts are read at all. The law GalleyReads: the pages of any text, or the first line that cannot stand where it is. The package variables that the rows list: what the condition gives a walk, and a world that meets it. -/
import Derived.Test.YteadhacoglcbfaaDoorZ18
import Derived.Laws.StructEq
import Derived.LaidLaws
import Derived.Lib.LaidTab
import Derived.LaidHandle
import Derived.HandedShaped
import Derived.Shelf.Vars
import Derived.Stop.LaidErr
namespace Go.Proofs.YteadhacoglcbfaaDoor

open Go.ChangeShapes Go.WideShapes Go.ChangeAt Go.RowKit Go.Shelf

theorem Row.ghost {α : Type} {w : World} {base n : Nat} {e : TypeId} {enc : α → List Value} {v : Value} {l l' : List α} (h : Row w base e n enc v l) (hn : l'.length = l.length) (hf : l'.flatMap enc = l.flatMap enc) : Row w base e n enc v l' := by
  unfold Row at h ⊢
  rw [hn, hf]
  exact h
theorem Row.slok {α : Type} {w : World} {base n : Nat} {e : TypeId} {enc : α → List Value} {a : Option Addr} {m c : Nat} {l : List α} (hn : ∀ x, (enc x).length = n) (h : Row w base e n enc (.slice a m c) l) : SlOk w n enc a m c l := by
  obtain ⟨a', c', e1, h1⟩ := h.sl hn
  simp only [Value.slice.injEq] at e1
  obtain ⟨rfl, rfl, rfl⟩ := e1
  exact h1
def laneT (y : Lane) : LnD := ⟨y.x, y.s.l⟩
def pageT (p : Page) : PgD := ⟨p.s.l.map laneT, p.t, p.f, p.l⟩
def LnD.ok (e : LnD) : Prop := I64 e.x ∧ ∀ p, p ∈ e.puts → p.ok
def PgD.ok (d : PgD) : Prop := I64 d.t ∧ I64 d.f ∧ I64 d.l ∧ ∀ e, e ∈ d.lanes → e.ok
def dsOk (ds : List PgD) : Prop := ∀ d, d ∈ ds → d.ok
theorem takeP_ds {ds ds' : List PgD} {s : List UInt8} (h : takeP ds s = some ds') (hd : dsOk ds) : dsOk ds' := by
  rcases takeP_some h with ⟨t, f, l, hp, rfl⟩ | ⟨es, d, x, rfl, hp, rfl⟩ | ⟨es, dl, e, t, f, l, wd, ns, q, rfl, hp, _, _, hq, rfl⟩
  · have hi := (parseP_ok hp).2.1
    intro d hm
    rcases List.mem_append.1 hm with hm | hm
    · exact hd d hm
    · rw [List.mem_singleton] at hm
      subst hm
      exact ⟨hi _ (by simp), hi _ (by simp), hi _ (by simp), fun e he => by cases he⟩
  · have hi := (parseP_ok hp).2.1
    intro d' hm
    have hdd := hd d (by simp)
    rcases List.mem_append.1 hm with hm | hm
    · exact hd d' (List.mem_append_left _ hm)
    · rw [List.mem_singleton] at hm
      subst hm
      refine ⟨hdd.1, hdd.2.1, hdd.2.2.1, fun e he => ?_⟩
      rcases List.mem_append.1 he with he | he
      · exact hdd.2.2.2 e he
      · rw [List.mem_singleton] at he
        subst he
        exact ⟨hi _ (by simp), fun p hp => by cases hp⟩
  · have hi := (parseP_ok hp).2.1
    have hdd := hd ⟨dl ++ [e], t, f, l⟩ (by simp)
    intro d' hm
    rcases List.mem_append.1 hm with hm | hm
    · exact hd d' (List.mem_append_left _ hm)
    · rw [List.mem_singleton] at hm
      subst hm
      refine ⟨hdd.1, hdd.2.1, hdd.2.2.1, fun e' he => ?_⟩
      rcases List.mem_append.1 he with he | he
      · exact hdd.2.2.2 e' (List.mem_append_left _ he)
      · rw [List.mem_singleton] at he
        subst he
        have hee := hdd.2.2.2 e (by simp)
        refine ⟨hee.1, fun p hp => ?_⟩
        rcases List.mem_append.1 hp with hp | hp
        · exact hee.2 p hp
        · rw [List.mem_singleton] at hp
          subst hp
          exact (putOf_ok hq hi).2.2
theorem dsK_ok {s : List UInt8} : ∀ {k : Nat} {ds : List PgD}, dsK s k = some ds → dsOk ds
  | 0, ds, h => by cases h; intro d hd; cases hd
  | k + 1, ds, h => by
    unfold dsK at h
    rw [Option.bind_eq_some_iff] at h
    obtain ⟨d, h1, h2⟩ := h
    exact takeP_ds h2 (dsK_ok h1)
/-- A lane with its own things told. -/
theorem ln_good {w : World} {base : Nat} {y : Lane} {e : LnD} (hx : y.x = e.x) (h : Row w base 33 5 Put.cells (.slice y.s.a y.s.len y.s.cap) e.puts) (ho : e.ok) : ∃ y' : Lane, y'.cells = y.cells ∧ y'.good w ∧ laneT y' = e :=
  ⟨⟨y.x, ⟨y.s.a, y.s.len, y.s.cap, e.puts⟩⟩, rfl, ⟨by rw [hx]; exact ho.1, h.slok (fun _ => rfl), ho.2⟩, by unfold laneT; rw [hx]⟩
theorem lns_good {F : List Nat} {w : World} {base : Nat} : ∀ {ll : List Lane} {dl : List LnD}, All2 (LnOk F w base) ll dl → (∀ e, e ∈ dl → e.ok) → ∃ ll' : List Lane, ll'.length = ll.length ∧ ll'.flatMap Lane.cells = ll.flatMap Lane.cells ∧ (∀ y, y ∈ ll' → y.good w) ∧ ll'.map laneT = dl
  | _, _, .nil, _ => ⟨[], rfl, rfl, (fun _ h => by cases h), rfl⟩
  | _, _, .snoc a b, ho => by
    obtain ⟨l1, h1, h2, h3, h4⟩ := lns_good a fun e he => ho e (List.mem_append_left _ he)
    obtain ⟨y', g1, g2, g3⟩ := ln_good b.1 b.2.1 (ho _ (List.mem_append_right _ (List.mem_singleton.2 rfl)))
    refine ⟨l1 ++ [y'], by rw [List.length_append, List.length_append, h1]; rfl, by rw [List.flatMap_append, List.flatMap_append, h2, List.flatMap_singleton, List.flatMap_singleton, g1], fun y hy => ?_, by rw [List.map_append, h4, List.map_singleton, g3]⟩
    rcases List.mem_append.1 hy with hy | hy
    · exact h3 y hy
    · rw [List.mem_singleton] at hy; subst hy; exact g2
theorem pg_of {w : World} {base : Nat} {p : Page} {d : PgD} {ll ll' : List Lane} (h1 : p.t = d.t) (h2 : p.f = d.f) (h3 : p.l = d.l) (hr : Row w base 46 2 Lane.cells (.slice p.s.a p.s.len p.s.cap) ll) (ho : d.ok)
    (q1 : ll'.length = ll.length) (q2 : ll'.flatMap Lane.cells = ll.flatMap Lane.cells) (q3 : ∀ y, y ∈ ll' → y.good w) (q4 : ll'.map laneT = d.lanes) : ∃ p' : Page, p'.cells = p.cells ∧ p'.good w ∧ pageT p' = d := by
  obtain ⟨o1, o2, o3, o4⟩ := ho
  refine ⟨⟨⟨p.s.a, p.s.len, p.s.cap, ll'⟩, p.t, p.f, p.l⟩, rfl, ⟨by rw [h1]; exact o1, by rw [h2]; exact o2, by rw [h3]; exact o3, (hr.ghost q1 q2).slok (fun _ => rfl), q3⟩, ?_⟩
  unfold pageT
  simp only [q4, h1, h2, h3]
theorem pg_good {F : List Nat} {w : World} {base : Nat} {p : Page} {d : PgD} (h : PgOk F w base p d) (ho : d.ok) : ∃ p' : Page, p'.cells = p.cells ∧ p'.good w ∧ pageT p' = d := by
  obtain ⟨h1, h2, h3, ll, h4, h5⟩ := h
  obtain ⟨ll', q1, q2, q3, q4⟩ := lns_good h5 ho.2.2.2
  exact pg_of h1 h2 h3 h4.1 ho q1 q2 q3 q4
theorem pgs_good {F : List Nat} {w : World} {base : Nat} : ∀ {ps : List Page} {ds : List PgD}, All2 (PgOk F w base) ps ds → dsOk ds → ∃ ps' : List Page, ps'.length = ps.length ∧ ps'.flatMap Page.cells = ps.flatMap Page.cells ∧ (∀ y, y ∈ ps' → y.good w) ∧ ps'.map pageT = ds
  | _, _, .nil, _ => ⟨[], rfl, rfl, (fun _ h => by cases h), rfl⟩
  | _, _, .snoc a b, ho => by
    obtain ⟨l1, h1, h2, h3, h4⟩ := pgs_good a fun e he => ho e (List.mem_append_left _ he)
    obtain ⟨y', g1, g2, g3⟩ := pg_good b (ho _ (List.mem_append_right _ (List.mem_singleton.2 rfl)))
    refine ⟨l1 ++ [y'], by rw [List.length_append, List.length_append, h1]; rfl, by rw [List.flatMap_append, List.flatMap_append, h2, List.flatMap_singleton, List.flatMap_singleton, g1], fun y hy => ?_, by rw [List.map_append, h4, List.map_singleton, g3]⟩
    rcases List.mem_append.1 hy with hy | hy
    · exact h3 y hy
    · rw [List.mem_singleton] at hy; subst hy; exact g2
theorem tip_good {F : List Nat} {w : World} {base : Nat} {p : Page} {d : PgD} (h : Tip F w base p d) (ho : d.ok) : ∃ p' : Page, p'.cells = p.cells ∧ p'.good w ∧ pageT p' = d := by
  obtain ⟨h1, h2, h3, ⟨e1, e2, e3, e4⟩ | ⟨ks, y, dl, e, e1, q1, q2, q3, q4, _, _⟩⟩ := h
  · obtain ⟨⟨pa, pn, pc, pl⟩, pt, pf, pq⟩ := p
    simp only at e2 e3 e4
    subst e2 e3 e4
    exact pg_of (base := base) (ll := []) (ll' := []) h1 h2 h3 (Row.nil _ _ _ _ _) ho rfl rfl (fun _ h => by cases h) (by rw [e1]; rfl)
  · have hoe : ∀ x, x ∈ dl ++ [e] → x.ok := by rw [← e1]; exact ho.2.2.2
    obtain ⟨l1, h1', h2', h3', h4'⟩ := lns_good q2 fun x hx => hoe x (List.mem_append_left _ hx)
    obtain ⟨y', g1, g2, g3⟩ := ln_good q3 q4 (hoe _ (List.mem_append_right _ (List.mem_singleton.2 rfl)))
    refine pg_of h1 h2 h3 q1 ho (ll' := l1 ++ [y']) (by rw [List.length_append, List.length_append, h1']; rfl) (by rw [List.flatMap_append, List.flatMap_append, h2', List.flatMap_singleton, List.flatMap_singleton, g1]) (fun z hz => ?_) (by rw [List.map_append, h4', List.map_singleton, g3, e1])
    rcases List.mem_append.1 hz with hz | hz
    · exact h3' z hz
    · rw [List.mem_singleton] at hz; subst hz; exact g2
/-- A state's pages. -/
theorem Rep.pages {w : World} {base : Nat} {v : Value} {ds : List PgD} (h : Rep w base v ds) (ho : dsOk ds) : ∃ (a : Option Addr) (c : Nat) (ps : List Page), v = .slice a ps.length c ∧ SlOk w 4 Page.cells a ps.length c ps ∧ (∀ p, p ∈ ps → p.good w) ∧ ps.map pageT = ds := by
  rcases h with ⟨rfl, rfl⟩ | ⟨F, qs, p, es, d, rfl, hr, hq, ht, _⟩
  · exact ⟨none, 0, [], rfl, ⟨rfl, Nat.le_refl _, Nat.zero_le _, .inl rfl⟩, (fun _ h => by cases h), rfl⟩
  · obtain ⟨l1, h1, h2, h3, h4⟩ := pgs_good hq fun e he => ho e (List.mem_append_left _ he)
    obtain ⟨p', g1, g2, g3⟩ := tip_good ht (ho _ (List.mem_append_right _ (List.mem_singleton.2 rfl)))
    have hr' := hr.ghost (l' := l1 ++ [p']) (by rw [List.length_append, List.length_append, h1]; rfl) (by rw [List.flatMap_append, List.flatMap_append, h2, List.flatMap_singleton, List.flatMap_singleton, g1])
    obtain ⟨a, c, hv, hs⟩ := hr'.sl (fun _ => rfl)
    refine ⟨a, c, l1 ++ [p'], hv, hs, fun z hz => ?_, by rw [List.map_append, h4, List.map_singleton, g3]⟩
    rcases List.mem_append.1 hz with hz | hz
    · exact h3 z hz
    · rw [List.mem_singleton] at hz; subst hz; exact g2
theorem eqL_map {α β : Type} {f : α → α → Bool} {g : α → β} : ∀ {a b : List α}, (∀ x y, x ∈ a → y ∈ b → g x = g y → f x y = true) → a.map g = b.map g → eqL f a b = true
  | [], [], _, _ => rfl
  | x :: a, y :: b, h, e => by
    simp only [List.map_cons, List.cons.injEq] at e
    unfold eqL
    rw [h x y List.mem_cons_self List.mem_cons_self e.1, Bool.true_and]
    exact eqL_map (fun x' y' hx hy => h x' y' (List.mem_cons_of_mem _ hx) (List.mem_cons_of_mem _ hy)) e.2
  | [], _ :: _, _, e => by simp at e
  | _ :: _, [], _, e => by simp at e
theorem eqPage_T (p q : Page) (h : pageT p = pageT q) : eqPage p q = true := by
  unfold pageT at h
  simp only [PgD.mk.injEq] at h
  obtain ⟨h1, h2, h3, h4⟩ := h
  unfold eqPage
  rw [h2, h3, h4]
  simp only [beq_self_eq_true, Bool.true_and]
  refine eqL_map (fun x y _ _ e => ?_) h1
  unfold laneT at e
  simp only [LnD.mk.injEq] at e
  obtain ⟨e1, e2⟩ := e
  unfold eqLane
  rw [e1, e2]
  simp only [beq_self_eq_true, Bool.true_and]
  exact eqL_map (g := id) (fun x y _ _ e => eqPut_iff.2 e) rfl
theorem eqPages_T {a b : List Page} (h : a.map pageT = b.map pageT) : eqL eqPage a b = true := eqL_map (fun x y _ _ e => eqPage_T x y e) h
/-- The pages of two readings of the same data are the same. -/
theorem same_rep {w : World} {b1 b2 : Nat} {v1 v2 : Value} {ds : List PgD} (h1 : Rep w b1 v1 ds) (h2 : Rep w b2 v2 ds) (ho : dsOk ds) : Calls Tryd.prog 9 #[v1, v2] w fun e w' => e = .returned (.bool true) ∧ Kp w w' := by
  obtain ⟨a1, c1, p1, rfl, s1, g1, m1⟩ := h1.pages ho
  obtain ⟨a2, c2, p2, rfl, s2, g2, m2⟩ := h2.pages ho
  have h := same38_any a1 a2 c1 c2 p1 p2 w s1 g1 s2 g2
  rw [eqPages_T (m1.trans m2.symm)] at h
  exact h
end Go.Proofs.YteadhacoglcbfaaDoor
namespace Go.Proofs.YteadhacoglcbfaaDoor

open Go.ChangeShapes Go.WideShapes Go.ChangeAt Go.RowKit Go.Shelf

set_option maxHeartbeats 1000000 in
theorem eqPt (d : Nat) (w : World) (a0 a1 a2 a3 a4 b0 b1 b2 b3 b4 : Int) :
    (Op.equalIn (d + 3) 33 (.agg #[.int .i64 a0, .int .i64 a1, .int .i64 a2, .int .i64 a3, .int .i64 a4]) (.agg #[.int .i64 b0, .int .i64 b1, .int .i64 b2, .int .i64 b3, .int .i64 b4])).run Tryd.prog w = .ok (a0 == b0 && (a1 == b1 && (a2 == b2 && (a3 == b3 && a4 == b4)))) w := by
  have hu := Tryd.underlying33
  go_simp
  clear hu
  by_cases h0 : a0 = b0 <;> by_cases h1 : a1 = b1 <;> by_cases h2 : a2 = b2 <;> by_cases h3 : a3 = b3 <;> by_cases h4 : a4 = b4 <;> simp_all
abbrev aw4 : List UInt8 := [114, 117, 108, 101, 32, 52, 32, 49]
theorem awP4 : putP aw4 = some ⟨3, 0, 0, 4, 1⟩ := by
  have e : aw4 = lineL wRule [4, 1] := by simp [lineL, numL, ig4, ig1]
  unfold putP
  rw [e, parseP_line (by decide) (by unfold I64; decide)]
  rfl
def lines1 : Nat → List UInt8
  | 0 => aw1
  | 1 => aw2
  | _ => aw3
def rests1 : Nat → List UInt8
  | 0 => [112, 97, 103, 101, 32, 48, 32, 45, 49, 32, 53, 32, 53, 10, 108, 97, 110, 101, 32, 51, 10, 98, 111, 120, 32, 50, 32, 48, 32, 51, 10]
  | 1 => [108, 97, 110, 101, 32, 51, 10, 98, 111, 120, 32, 50, 32, 48, 32, 51, 10]
  | 2 => [98, 111, 120, 32, 50, 32, 48, 32, 51, 10]
  | _ => []
def lines2 : Nat → List UInt8 := fun _ => aw1
def rests2 : Nat → List UInt8
  | 0 => [112, 97, 103, 101, 32, 48, 32, 45, 49, 32, 53, 32, 53, 10, 98, 111, 120, 32, 50, 32, 48, 32, 51, 10]
  | _ => [98, 111, 120, 32, 50, 32, 48, 32, 51, 10]
theorem chain1 (W : World) (he : Env W) : Chain W 3 lines1 rests1 (AwT W.heap.size) := by
  refine ⟨fun _ _ _ _ _ k h => h.kp k, fun _ _ _ _ _ _ _ hB h => h.bool hB, fun _ _ _ _ h => ⟨h.1, h.sl⟩, fun k hk => ?_, fun k => ?_, fun k O v w1 S hk _ k1 hA hS => ?_⟩
  · obtain rfl | rfl | rfl : k = 0 ∨ k = 1 ∨ k = 2 := by omega
    · exact ⟨by decide, by decide⟩
    · exact ⟨by decide, by decide⟩
    · exact ⟨by decide, by decide⟩
  · unfold rests1; split <;> decide
  · obtain rfl | rfl | rfl : k = 0 ∨ k = 1 ∨ k = 2 := by omega
    · exact step0 W O S v w1 he k1 hA hS
    · exact step1 W O S v w1 he k1 hA hS
    · exact step2 W O S v w1 he k1 hA hS
theorem chain2 (W : World) (he : Env W) : Chain W 1 lines2 rests2 (AwT W.heap.size) := by
  refine ⟨fun _ _ _ _ _ k h => h.kp k, fun _ _ _ _ _ _ _ hB h => h.bool hB, fun _ _ _ _ h => ⟨h.1, h.sl⟩, fun k hk => ?_, fun k => ?_, fun k O v w1 S hk _ k1 hA hS => ?_⟩
  · obtain rfl : k = 0 := by omega
    exact ⟨by decide, by decide⟩
  · unfold rests2; split <;> decide
  · obtain rfl : k = 0 := by omega
    exact step0 W O S v w1 he k1 hA hS
theorem aw_start (W : World) (O : Nat) (w1 : World) (hO : W.heap.size ≤ O) (k1 : Kp W w1) (hB : Blk w1 O [.slice none 0 0] 23) : AwT W.heap.size 0 O (.slice none 0 0) w1 := ⟨hB, k1.size, hO, rfl⟩
theorem aw_read1 (W : World) (he : Env W) : Calls Tryd.prog 7 #[sv (rests1 0)] W fun e w' => Kp W w' ∧ ∃ O v, e = .returned (.tuple #[v, .int .i64 0]) ∧ AwT W.heap.size 3 O v w' :=
  read_done W 3 lines1 rests1 _ (chain1 W he) he (by decide) rfl (fun O w1 h1 h2 h3 => aw_start W O w1 h1 h2 h3)
theorem aw_read2 (W : World) (he : Env W) : Calls Tryd.prog 7 #[sv (rests2 0)] W fun e w' => e = .returned (.tuple #[.slice none 0 0, .int .i64 2]) ∧ Kp W w' :=
  read_bad W 1 lines2 rests2 _ (chain2 W he) he (by decide) aw3 [] (by decide) (by decide) (fun O v w1 S _ k1 hA hS => stepBad W O S v w1 he k1 hA hS) (fun O w1 h1 h2 h3 => aw_start W O w1 h1 h2 h3)
set_option maxRecDepth 100000 in
set_option maxHeartbeats 8000000 in
theorem awake51_any (w : World) (he : Env w) : Calls Tryd.prog 6 #[] w fun e w' => e = .returned (.bool true) ∧ Kp w w' := by
  have HE := Lib.hid he
  have eP := @eqPt
  clear he
  go_enter Tryd.func6, Tryd.ntmps6
  go_wp2_with fail
  refine Calls.mono (aw_read1 _ HE.out) ?_
  rintro e w1 ⟨k1, O, v, rfl, hA⟩
  go_wp2_with fail
  refine Calls.mono (aw_read2 _ (HE.out.kp k1)) ?_
  rintro e w2 ⟨rfl, k2⟩
  have kw2 := k1.trans k2
  go_wp2_with fail
  refine Calls.mono (galleyPut_any aw4 (by decide) _ (HE.out.kp kw2)) ?_
  rintro e w3 ⟨k3, hh⟩
  obtain rfl : e = .returned (.tuple #[.agg #[.int .i64 3, .int .i64 0, .int .i64 0, .int .i64 4, .int .i64 1], .bool true]) := by
    rcases hh with ⟨p, hp, e1⟩ | ⟨hp, _⟩
    · rw [awP4] at hp
      cases hp
      exact e1
    · rw [awP4] at hp
      cases hp
  have kw3 := kw2.trans k3
  obtain ⟨_, _, _, hA3⟩ := hA.kp (k2.trans k3)
  obtain ⟨g, c, h, lc, j, pc, rfl, r1, r2, r3⟩ : ∃ g c h lc j pc, v = .slice (some ⟨g, 0, none⟩) 1 c ∧ Row w3 w.heap.size 49 4 Page.cells v [pg (some ⟨h, 0, none⟩) 1 lc []] ∧ Row w3 w.heap.size 46 2 Lane.cells (.slice (some ⟨h, 0, none⟩) 1 lc) [ln (some ⟨j, 0, none⟩) 1 pc []] ∧ Row w3 w.heap.size 33 5 Put.cells (.slice (some ⟨j, 0, none⟩) 1 pc) [⟨1, 2, 0, 0, 3⟩] := hA3
  obtain ⟨-, q1, q1m⟩ := r1.shape1 (by simp)
  obtain ⟨-, q2, q2m⟩ := r2.shape1 (by simp)
  obtain ⟨-, q3, q3m⟩ := r3.shape1 (by simp)
  unfold maxLen at q1m q2m q3m
  have d0 : w3.cell? ⟨g, 0, none⟩ = some (.slice (some ⟨h, 0, none⟩) 1 lc) := Row.cellN (enc := Page.cells) (fun _ => rfl) r1 rfl (k := 0) rfl (j := 0) rfl
  have d1 : w3.cell? ⟨h, 1, none⟩ = some (.slice (some ⟨j, 0, none⟩) 1 pc) := Row.cellN (enc := Lane.cells) (fun _ => rfl) r2 rfl (k := 0) rfl (j := 1) rfl
  have d2 : w3.cell? ⟨j, 1, none⟩ = some (.int .i64 2) := Row.cellN (enc := Put.cells) (fun _ => rfl) r3 rfl (k := 0) rfl (j := 1) rfl
  have b1 := (r1.lt g rfl).2
  have b2 := (r2.lt h rfl).2
  have b3 := (r3.lt j rfl).2
  clear hA r1 r2 r3 hh k1 k2 k3
  go_wp2_with fail
  (try go_ret)
  exact ⟨by first | rfl | (rw [ret_bool]; decide), (by (repeat (first | with_reducible assumption | with_reducible exact Kp.refl _ | with_reducible refine Kp.drew ?_ | with_reducible refine Kp.drewN ?_ _ | with_reducible refine Kp.alloc ?_ _ | ((with_reducible refine Kp.setCell ?_ ?_ _); rotate_left; (focus (first | omega | (simp; done) | (simp; omega)))) | with_reducible refine Kp.trans ?_ (by assumption))))⟩
end Go.Proofs.YteadhacoglcbfaaDoor
namespace Go.Proofs.YteadhacoglcbfaaDoor

open Go.ChangeShapes Go.WideShapes Go.ChangeAt Go.RowKit Go.Shelf

theorem gal_pair {s : List UInt8} {W w1 : World} {e : Ending} (h : GalEnd s W e w1) (_hN : s.length ≤ 2000) : ∃ a n c z, e = .returned (.tuple #[.slice a n c, .int .i64 z]) ∧ Kp W w1 ∧
    ∀ w1' e2 w2, Kp w1 w1' → RefEnd s w1' e2 w2 → ∃ a2 n2 c2 b, e2 = .returned (.agg #[.slice a2 n2 c2, .int .i64 z, .bool b]) ∧ Kp w1' w2 ∧ ∀ w3, Kp w2 w3 → Calls Tryd.prog 9 #[.slice a n c, .slice a2 n2 c2] w3 fun e w' => e = .returned (.bool true) ∧ Kp w3 w' := by
  obtain ⟨k1, N, hg, hb, ⟨hr, ds, v, hd, rfl, hR⟩ | ⟨hr, rfl⟩⟩ := h
  · obtain ⟨a, c, rfl⟩ := hR.sl
    refine ⟨a, _, c, 0, rfl, k1, fun w1' e2 w2 kk h2 => ?_⟩
    obtain ⟨k2, M, hg2, hb2, h2⟩ := h2
    obtain rfl := good_uniq hg hb hg2 hb2
    rcases h2 with ⟨_, ds2, v2, hd2, rfl, hR2⟩ | ⟨hr2, _⟩
    · rw [hd] at hd2
      cases hd2
      obtain ⟨a2, c2, rfl⟩ := hR2.sl
      exact ⟨a2, _, c2, true, rfl, k2, fun w3 k3 => same_rep (hR.move (Typed.kp ((kk.trans k2).trans k3))) (hR2.move (Typed.kp k3)) (dsK_ok hd)⟩
    · exact absurd hr hr2
  · refine ⟨none, 0, 0, _, rfl, k1, fun w1' e2 w2 kk h2 => ?_⟩
    obtain ⟨k2, M, hg2, hb2, h2⟩ := h2
    obtain rfl := good_uniq hg hb hg2 hb2
    rcases h2 with ⟨hr2, _⟩ | ⟨_, rfl⟩
    · exact absurd hr2 hr
    · exact ⟨none, 0, 0, false, rfl, k2, fun w3 _ => same_rep (ds := []) (rep_nil w3 0) (rep_nil w3 0) (fun d hd => by cases hd)⟩
set_option maxRecDepth 100000 in
set_option maxHeartbeats 8000000 in
theorem galleyReads_main (s : List UInt8) (w : World) (he : Env w) (hs : s.length ≤ 2000) : Calls Tryd.prog 3 #[sv s] w fun e w' => e = .returned (.bool true) ∧ Kp w w' := by
  have CG : Hid (∀ w', Kp w w' → Calls Tryd.prog 7 #[sv s] w' (GalEnd s w')) := Lib.hid fun w' k => galRead_any s w' (he.kp k) (by omega) (fun k => by
    have h1 := (cut_le (restK s k)).1
    have h2 := rest_le s k
    unfold lineK
    omega) (fun N hg => by have := rest_len s N hg; omega)
  have CR : Hid (∀ w', Calls Tryd.prog 8 #[sv s] w' (RefEnd s w')) := Lib.hid fun w' => refRead51_any s hs w'
  have CAW : Hid (∀ w', Kp w w' → Calls Tryd.prog 6 #[] w' fun e w'' => e = .returned (.bool true) ∧ Kp w' w'') := Lib.hid fun w' k => awake51_any w' (he.kp k)
  have HS := Lib.hid hs
  have j1 : decide ((2000 : Int) < (s.length : Int)) = false := decide_eq_false (by omega)
  clear he hs
  go_enter Tryd.func3, Tryd.ntmps3
  go_wp2_with fail
  refine (CG.out _ (by (repeat (first | with_reducible assumption | with_reducible exact Kp.refl _ | with_reducible refine Kp.drew ?_ | with_reducible refine Kp.drewN ?_ _ | with_reducible refine Kp.alloc ?_ _ | ((with_reducible refine Kp.setCell ?_ ?_ _); rotate_left; (focus (first | omega | (simp; done) | (simp; omega)))) | with_reducible refine Kp.trans ?_ (by assumption))))).mono ?_
  intro e w1 h1
  obtain ⟨a, n, c, z, rfl, k1, hp⟩ := gal_pair h1 HS.out
  have HP := Lib.hid hp
  have kw1 : Kp w w1 := ((by (repeat (first | with_reducible assumption | with_reducible exact Kp.refl _ | with_reducible refine Kp.drew ?_ | with_reducible refine Kp.drewN ?_ _ | with_reducible refine Kp.alloc ?_ _ | ((with_reducible refine Kp.setCell ?_ ?_ _); rotate_left; (focus (first | omega | (simp; done) | (simp; omega)))) | with_reducible refine Kp.trans ?_ (by assumption)))) : Kp w _).trans k1
  clear h1 hp k1
  go_wp2_with fail
  refine (CR.out _).mono ?_
  intro e w2 h2
  obtain ⟨a2, n2, c2, b, rfl, k2, hsm⟩ := HP.out _ _ _ (by (repeat (first | with_reducible assumption | with_reducible exact Kp.refl _ | with_reducible refine Kp.drew ?_ | with_reducible refine Kp.drewN ?_ _ | with_reducible refine Kp.alloc ?_ _ | ((with_reducible refine Kp.setCell ?_ ?_ _); rotate_left; (focus (first | omega | (simp; done) | (simp; omega)))) | with_reducible refine Kp.trans ?_ (by assumption)))) h2
  have HSM := Lib.hid hsm
  have kw2 : Kp w w2 := kw1.trans (((by (repeat (first | with_reducible assumption | with_reducible exact Kp.refl _ | with_reducible refine Kp.drew ?_ | with_reducible refine Kp.drewN ?_ _ | with_reducible refine Kp.alloc ?_ _ | ((with_reducible refine Kp.setCell ?_ ?_ _); rotate_left; (focus (first | omega | (simp; done) | (simp; omega)))) | with_reducible refine Kp.trans ?_ (by assumption)))) : Kp w1 _).trans k2)
  clear h2 hsm k2
  go_wp2_with fail
  refine (HSM.out _ (by (repeat (first | with_reducible assumption | with_reducible exact Kp.refl _ | with_reducible refine Kp.drew ?_ | with_reducible refine Kp.drewN ?_ _ | with_reducible refine Kp.alloc ?_ _ | ((with_reducible refine Kp.setCell ?_ ?_ _); rotate_left; (focus (first | omega | (simp; done) | (simp; omega)))) | with_reducible refine Kp.trans ?_ (by assumption))))).mono ?_
  rintro e w3 ⟨rfl, k3⟩
  have kw3 : Kp w w3 := kw2.trans (((by (repeat (first | with_reducible assumption | with_reducible exact Kp.refl _ | with_reducible refine Kp.drew ?_ | with_reducible refine Kp.drewN ?_ _ | with_reducible refine Kp.alloc ?_ _ | ((with_reducible refine Kp.setCell ?_ ?_ _); rotate_left; (focus (first | omega | (simp; done) | (simp; omega)))) | with_reducible refine Kp.trans ?_ (by assumption)))) : Kp w2 _).trans k3)
  go_wp2_with fail
  refine (CAW.out _ kw3).mono ?_
  rintro e w4 ⟨rfl, k4⟩
  go_wp2_with fail
  (try go_ret)
  exact ⟨rfl, kw3.trans k4⟩
set_option maxHeartbeats 1000000 in
theorem galleyReads_far (s : List UInt8) (w : World) (he : Env w) (h : 2000 < s.length) (h2 : s.length ≤ 9223372036854775807) :
    Calls Tryd.prog 3 #[sv s] w fun e w' => e = .returned (.bool true) ∧ Kp w w' := by
  have HE := Lib.hid he
  have j1 : decide ((2000 : Int) < (s.length : Int)) = true := decide_eq_true (by omega)
  have j2 : decide (2000 < s.length) = true := decide_eq_true (by omega)
  clear he
  go_enter Tryd.func3, Tryd.ntmps3
  go_wp2_with fail
  refine (awake51_any _ (HE.out.kp (by (repeat (first | with_reducible assumption | with_reducible exact Kp.refl _ | with_reducible refine Kp.drew ?_ | with_reducible refine Kp.drewN ?_ _ | with_reducible refine Kp.alloc ?_ _ | ((with_reducible refine Kp.setCell ?_ ?_ _); rotate_left; (focus (first | omega | (simp; done) | (simp; omega)))) | with_reducible refine Kp.trans ?_ (by assumption)))))).mono ?_
  rintro e w1 ⟨rfl, k1⟩
  go_wp2_with fail
  (try go_ret)
  exact ⟨rfl, ((by (repeat (first | with_reducible assumption | with_reducible exact Kp.refl _ | with_reducible refine Kp.drew ?_ | with_reducible refine Kp.drewN ?_ _ | with_reducible refine Kp.alloc ?_ _ | ((with_reducible refine Kp.setCell ?_ ?_ _); rotate_left; (focus (first | omega | (simp; done) | (simp; omega)))) | with_reducible refine Kp.trans ?_ (by assumption)))) : Kp w _).trans k1⟩
theorem galleyReads_row (a : ByteArray) (w : World) (ha : a.size ≤ 140737488351232) (he : Env w) :
    Calls Tryd.prog 3 #[.string a] w fun e w' => e = .returned (.bool true) ∧ Kp w w' := by
  obtain ⟨⟨l⟩⟩ := a
  have hl : l.length ≤ 140737488351232 := ha
  by_cases h : 2000 < l.length
  · exact galleyReads_far l w he h (by omega)
  · exact galleyReads_main l w he (by omega)
end Go.Proofs.YteadhacoglcbfaaDoor
namespace Go.Proofs.YteadhacoglcbfaaDoor

open Go.RowKit

/-- An array of texts that reads as these texts holds them, cell for cell. -/
theorem cells_of_strs {H : Type} {enc : TypeId × Value → H} {P : Program} {w : World} {base : Nat} {sp : Nat → Bool} {held : Bool} {fuel : Nat} {t e : TypeId} {n : Nat} {cs : List Value} {zs : List (List UInt8)} {p : List MemPlace}
    (ht : P.underlying t = some (.array n e)) (he : P.underlying e = some .string) (hce : P.cellsOf e = 1) (hct : P.cellsOf t = n)
    (h : DataW.trod enc P w base sp held fuel t cs = some (.agg (zs.map fun z => .lit (.string z)), p)) : cs = zs.map sv := by
  cases fuel with
  | zero => simp [DataW.trod] at h
  | succ fuel =>
    simp only [DataW.trod, ht, hce, hct, Nat.mul_one] at h
    split at h
    · rename_i hl
      obtain ⟨xs, hm, hx⟩ := Option.map_eq_some_iff.1 h
      have hxs : xs.map (·.1) = zs.map fun z => (DataW.lit (.string z) : DataW H) := by
        have := congrArg Prod.fst hx
        simpa using this
      have hxl : xs.length = n := by simpa using Lib.mapM_length hm
      have hzl : zs.length = n := by
        have := congrArg List.length hxs
        simp at this
        omega
      apply List.ext_getElem?
      intro i
      by_cases hi : i < n
      · obtain ⟨b, hb, hf⟩ := Lib.mapM_at hm i i (by simp [hi])
        obtain ⟨s, hc, rfl, _⟩ := DataW.trod_string he hf
        have h1 : cs[i]? = some (.string s) := by
          have := congrArg (·[0]?) hc
          simpa [List.getElem?_take, List.getElem?_drop] using this
        have h2 : (xs.map (·.1))[i]? = some (DataW.lit (.string s.data.toList) : DataW H) := by simp [hb]
        rw [hxs] at h2
        simp only [List.getElem?_map, Option.map_eq_some_iff, DataW.lit.injEq, Lit.string.injEq] at h2
        obtain ⟨z', hz', hzz⟩ := h2
        rw [h1, List.getElem?_map, hz']
        simp [sv, hzz]
      · rw [List.getElem?_eq_none (by omega), List.getElem?_eq_none (by simp; omega)]
    · cases h
theorem gtNames : (Tryd.prog.globals[0]?).map (·.type) = some 67 := by kernel_rfl
theorem uNames : Tryd.prog.underlying 67 = some (.array 5 9) := by kernel_rfl
theorem cNames : Tryd.prog.cellsOf 67 = 5 := by kernel_rfl
theorem cStr : Tryd.prog.cellsOf 9 = 1 := by kernel_rfl
theorem gtTab : (Tryd.prog.globals[4]?).map (·.type) = some 129 := by kernel_rfl
theorem uTab : Tryd.prog.underlying 129 = some (.array 20 101) := by kernel_rfl
theorem cTab : Tryd.prog.cellsOf 129 = 20 := by kernel_rfl
theorem cU64 : Tryd.prog.cellsOf 101 = 1 := by kernel_rfl
theorem gErrS : Tryd.prog.globalNamed "strconv.ErrSyntax" = some 2 := by kernel_rfl
theorem gErrR : Tryd.prog.globalNamed "strconv.ErrRange" = some 3 := by kernel_rfl
theorem gtErrS : (Tryd.prog.globals[2]?).map (·.type) = some 73 := by kernel_rfl
theorem gtErrR : (Tryd.prog.globals[3]?).map (·.type) = some 73 := by kernel_rfl
theorem cErrT : Tryd.prog.cellsOf 134 = 1 := by kernel_rfl
def laidL : List (String × DataW Unit) := [("math/bits.deBruijn32tab", Rows.laid_math_bits_deBruijn32tab), ("math/bits.deBruijn64tab", Rows.laid_math_bits_deBruijn64tab), ("internal/strconv.uint64pow10", Rows.laid_internal_strconv_uint64pow10), ("unicode/utf8.acceptRanges", Rows.laid_unicode_utf8_acceptRanges), ("strconv.ErrRange", Rows.laid_strconv_ErrRange), ("strconv.ErrSyntax", Rows.laid_strconv_ErrSyntax), ("tympan/show.names", Rows.laid_tympan_show_names), ("unicode/utf8.first", Rows.laid_unicode_utf8_first)]
def laidLR : List (String × DataW Unit) := [("math/bits.deBruijn32tab", Rows.laid_math_bits_deBruijn32tab), ("math/bits.deBruijn64tab", Rows.laid_math_bits_deBruijn64tab), ("internal/strconv.uint64pow10", Rows.laid_internal_strconv_uint64pow10), ("unicode/utf8.acceptRanges", Rows.laid_unicode_utf8_acceptRanges), ("strconv.ErrRange", Rows.laid_strconv_ErrRange), ("strconv.ErrSyntax", Rows.laid_strconv_ErrSyntax), ("unicode/utf8.first", Rows.laid_unicode_utf8_first)]
/-- The wrap that keeps the world's shape and the listed variables, both. -/
theorem handed_shaped_and {H : Type} {enc : TypeId × Value → H} {a : Assume} {C : Checked} {os : Os} {f : FuncId} {fn : Func} {s : ChangeSpec} {conds : List PathCond} {apart fresh handsOn again : Bool} {X : World → Array Value → Prop}
    (hX : ∀ (w w' : World) (args : Array Value), w.heap = w'.heap → X w args → X w' args) (own : ownKnob C.prog.godebug = none) (started : os.Started) (noInit : C.prog.inits.idxOf? f = none) (hfn : C.prog.funcs[f]? = some fn)
    (witness : ∃ (w : World) (tape : Tape) (i : Input), w.os = os ∧ (w.forCall tape i).Shaped C.prog ∧ i.vars = [] ∧ Input.okWide C.prog (w.forCall tape i) .any w.heap.size f i ∧
      ((s.pre enc C.prog fn conds apart (w.forCall tape i).memory i.args ∧ X (w.forCall tape i).memory i.args) ∧ sizedMet enc C.prog fn (OpenSpec.ofChange s) apart (w.forCall tape i).memory i.args) ∧ a.holds C.prog (lone (Frame.enter C.prog f i.args .normal) [] (w.forCall tape i)))
    (contract : ∀ (W : World) (base : Nat) (args : Array Value) (ds gs : List (DataW H)) (before : List MemPlace),
      (∀ (j : Nat) t v, fn.params[j]? = some t → args[j]? = some v → Value.okWide C.prog W .any base t v) →
      DataW.Whole enc C.prog fn.params.toList s.vars apart W args.toList ds gs before →
      conds.all (PathCond.test C.prog ⟨fn.params.toList, ds, s.plain.varTypes C.prog, gs⟩) = true →
      (DataW.weightsEach C.prog (fn.params.toList ++ s.plain.varTypes C.prog) (ds ++ gs)).all (· ≤ reachBytes) = true → X W args → W.ShapedOpen C.prog →
      a.holds C.prog (lone (Frame.enter C.prog f args .normal) [] W) →
      Calls C.prog f args W fun e W' => ∃ v, e = .returned v ∧ s.post enc C.prog fn apart fresh handsOn again W args v W') :
    ReturnsInHanded a C os f .any (fun w args => (s.pre enc C.prog fn conds apart w args ∧ X w args) ∧ sizedMet enc C.prog fn (OpenSpec.ofChange s) apart w args) (s.post enc C.prog fn apart fresh handsOn again) := by
  refine returnsInHanded_of_calls own started noInit witness ?_
  intro w tape i _ hsh _ hok hpre hholds
  obtain ⟨_, _, _, fn', hfn', _, _, _, _, hval⟩ := hok
  obtain rfl : fn' = fn := Option.some.inj (hfn'.symm.trans hfn)
  obtain ⟨⟨⟨ds, gs, before, hw, hc⟩, hx⟩, hz⟩ := hpre
  have hw' := DataW.Whole.of_heap (w' := w.forCall tape i) (by rfl) hw
  refine (contract (w.forCall tape i) w.heap.size i.args ds gs before hval hw' hc (hz.weights hw) (hX _ _ _ (by rfl) hx) hsh hholds).mono fun e W' ⟨v, he, hp⟩ => ?_
  subst he
  exact ChangeSpec.post_blind hp
theorem maxl_of_shape {W : World} (h : W.ShapedOpen Tryd.prog) : ∃ m t f, W.heap[1]? = some (.cells #[.int .i64 m] t f) := by
  have h0 : ((begin Tryd.prog (fun _ _ => 0) default).world.heap[1]?).bind Obj.row? = some (#[.int .i64 0], 3) := by kernel_rfl
  obtain ⟨m, hm⟩ := cell_of_shapedOpen_int (k := .i64) h (g := 1) (of_decide_eq_true (by kernel_rfl)) h0 rfl (by kernel_rfl) (by kernel_rfl) Tryd.underlying3
  obtain ⟨cs, hh, hs, _⟩ := h.1 1 _ _ (of_decide_eq_true (by kernel_rfl)) h0
  refine ⟨m, 3, (0, 0), ?_⟩
  rw [hh]
  have h1 : cs.size = 1 := hs
  obtain ⟨c, rfl⟩ : ∃ c, cs = #[c] := Array.size_eq_one_iff.1 h1
  simp [World.cell?, hh] at hm
  rw [hm]
theorem starErr : "*" ++ "errors.errorString" = "*errors.errorString" := by decide
theorem rowErr (u : TypeId) (h : Tryd.prog.typeName? 3 u = some "*errors.errorString") : u = 132 :=
  typeName_ptr_named (nm := "errors.errorString") (by rw [starErr]; kernel_rfl) (by kernel_rfl) (by decide) u (by rw [starErr]; exact h)
theorem env_of_laid {W : World} (h : laidMetH Tryd.prog laidL W) (hs : W.ShapedOpen Tryd.prog) : EnvN W := by
  have h' : laidMet Tryd.prog laidL W := h
  have h2 := h'.tail.tail
  have h4 := h2.tail.tail
  have h5 := h4.tail
  have h6 := h5.tail
  have hrow := rowErr
  obtain ⟨aR, sR, hR, _⟩ := laid_sentinel h4 gErrR gtErrR Tryd.underlying73 hrow Tryd.underlying132 Tryd.underlying134 rfl rfl Tryd.underlying9 cErrT cStr
  obtain ⟨aS, sS, hS, _⟩ := laid_sentinel h5 gErrS gtErrS Tryd.underlying73 hrow Tryd.underlying132 Tryd.underlying134 rfl rfl Tryd.underlying9 cErrT cStr
  obtain ⟨tS, fS, eS⟩ := var_at gErrS hS
  obtain ⟨tR, fR, eR⟩ := var_at gErrR hR
  obtain ⟨ps, ⟨g3, t3, c3, u3, p3, q3, hg3, ht3, hv3, hd3, _, _⟩, _⟩ := h2
  obtain ⟨ps', ⟨g4, t4, c4, u4, p4, q4, hg4, ht4, hv4, hd4, _, _⟩, _⟩ := h6
  refine ⟨⟨?_, maxl_of_shape hs, ⟨_, _, _, _, eS⟩, ⟨_, _, _, _, eR⟩⟩, ?_⟩
  · obtain rfl := Option.some.inj (gTab.symm.trans hg3)
    obtain rfl := Option.some.inj (gtTab.symm.trans ht3)
    have e := Lib.cells_of_tab (k := .u64) (zs := Lib.pow10Tab) uTab Tryd.underlying101 cU64 cTab (show DataW.trod _ _ _ _ _ _ _ _ _ = some (Lib.tabData .u64 Lib.pow10Tab, p3) from hd3)
    unfold Lib.TabIs
    rw [hv3, ← e]
  · obtain rfl := Option.some.inj (gNames.symm.trans hg4)
    obtain rfl := Option.some.inj (gtNames.symm.trans ht4)
    have e := cells_of_strs (zs := [[], [98, 111, 120], [102, 108, 111, 97, 116], [114, 117, 108, 101], [108, 105, 110, 101]]) uNames Tryd.underlying9 cStr cNames hd4
    rw [hv4]
    cases c4
    simp only at e
    rw [e]; rfl
theorem env_of_laidR {W : World} (h : laidMetH Tryd.prog laidLR W) (hs : W.ShapedOpen Tryd.prog) : Env W := by
  have h' : laidMet Tryd.prog laidLR W := h
  have h2 := h'.tail.tail
  have h4 := h2.tail.tail
  have h5 := h4.tail
  have hrow := rowErr
  obtain ⟨aR, sR, hR, _⟩ := laid_sentinel h4 gErrR gtErrR Tryd.underlying73 hrow Tryd.underlying132 Tryd.underlying134 rfl rfl Tryd.underlying9 cErrT cStr
  obtain ⟨aS, sS, hS, _⟩ := laid_sentinel h5 gErrS gtErrS Tryd.underlying73 hrow Tryd.underlying132 Tryd.underlying134 rfl rfl Tryd.underlying9 cErrT cStr
  obtain ⟨tS, fS, eS⟩ := var_at gErrS hS
  obtain ⟨tR, fR, eR⟩ := var_at gErrR hR
  obtain ⟨ps, ⟨g3, t3, c3, u3, p3, q3, hg3, ht3, hv3, hd3, _, _⟩, _⟩ := h2
  refine ⟨?_, maxl_of_shape hs, ⟨_, _, _, _, eS⟩, ⟨_, _, _, _, eR⟩⟩
  · obtain rfl := Option.some.inj (gTab.symm.trans hg3)
    obtain rfl := Option.some.inj (gtTab.symm.trans ht3)
    have e := Lib.cells_of_tab (k := .u64) (zs := Lib.pow10Tab) uTab Tryd.underlying101 cU64 cTab (show DataW.trod _ _ _ _ _ _ _ _ _ = some (Lib.tabData .u64 Lib.pow10Tab, p3) from hd3)
    unfold Lib.TabIs
    rw [hv3, ← e]
def setBlk (cs : Array Value) : Obj → Obj
  | .cells _ t frozen => .cells cs t frozen
  | o => o
def errBlk (l : List UInt8) : Obj := .cells #[sv l] 134
def errV (b : Nat) : Array Value := #[.iface 132 (.pointer (some ⟨b, 0, none⟩))]
/-- The settled world, the variables holding what they are laid with: the witness. -/
noncomputable def laidWorld (os : Os) : World :=
  { World.holding Tryd.prog os ⟨#[errBlk [105, 110, 118, 97, 108, 105, 100, 32, 115, 121, 110, 116, 97, 120], errBlk [118, 97, 108, 117, 101, 32, 111, 117, 116, 32, 111, 102, 32, 114, 97, 110, 103, 101]], #[], []⟩ with heap := ((((((((World.holding Tryd.prog os ⟨#[errBlk [105, 110, 118, 97, 108, 105, 100, 32, 115, 121, 110, 116, 97, 120], errBlk [118, 97, 108, 117, 101, 32, 111, 117, 116, 32, 111, 102, 32, 114, 97, 110, 103, 101]], #[], []⟩).heap.modify 0 (setBlk namesA)).modify 2 (setBlk (errV (World.settled Tryd.prog os).heap.size))).modify 3 (setBlk (errV ((World.settled Tryd.prog os).heap.size + 1)))).modify 4 (setBlk (Lib.pow10Tab.map fun z => Value.int .u64 z).toArray)).modify 5 (setBlk #[.int .u8 240, .int .u8 240, .int .u8 240, .int .u8 240, .int .u8 240, .int .u8 240, .int .u8 240, .int .u8 240, .int .u8 240, .int .u8 240, .int .u8 240, .int .u8 240, .int .u8 240, .int .u8 240, .int .u8 240, .int .u8 240, .int .u8 240, .int .u8 240, .int .u8 240, .int .u8 240, .int .u8 240, .int .u8 240, .int .u8 240, .int .u8 240, .int .u8 240, .int .u8 240, .int .u8 240, .int .u8 240, .int .u8 240, .int .u8 240, .int .u8 240, .int .u8 240, .int .u8 240, .int .u8 240, .int .u8 240, .int .u8 240, .int .u8 240, .int .u8 240, .int .u8 240, .int .u8 240, .int .u8 240, .int .u8 240, .int .u8 240, .int .u8 240, .int .u8 240, .int .u8 240, .int .u8 240, .int .u8 240, .int .u8 240, .int .u8 240, .int .u8 240, .int .u8 240, .int .u8 240, .int .u8 240, .int .u8 240, .int .u8 240, .int .u8 240, .int .u8 240, .int .u8 240, .int .u8 240, .int .u8 240, .int .u8 240, .int .u8 240, .int .u8 240, .int .u8 240, .int .u8 240, .int .u8 240, .int .u8 240, .int .u8 240, .int .u8 240, .int .u8 240, .int .u8 240, .int .u8 240, .int .u8 240, .int .u8 240, .int .u8 240, .int .u8 240, .int .u8 240, .int .u8 240, .int .u8 240, .int .u8 240, .int .u8 240, .int .u8 240, .int .u8 240, .int .u8 240, .int .u8 240, .int .u8 240, .int .u8 240, .int .u8 240, .int .u8 240, .int .u8 240, .int .u8 240, .int .u8 240, .int .u8 240, .int .u8 240, .int .u8 240, .int .u8 240, .int .u8 240, .int .u8 240, .int .u8 240, .int .u8 240, .int .u8 240, .int .u8 240, .int .u8 240, .int .u8 240, .int .u8 240, .int .u8 240, .int .u8 240, .int .u8 240, .int .u8 240, .int .u8 240, .int .u8 240, .int .u8 240, .int .u8 240, .int .u8 240, .int .u8 240, .int .u8 240, .int .u8 240, .int .u8 240, .int .u8 240, .int .u8 240, .int .u8 240, .int .u8 240, .int .u8 240, .int .u8 240, .int .u8 240, .int .u8 240, .int .u8 240, .int .u8 241, .int .u8 241, .int .u8 241, .int .u8 241, .int .u8 241, .int .u8 241, .int .u8 241, .int .u8 241, .int .u8 241, .int .u8 241, .int .u8 241, .int .u8 241, .int .u8 241, .int .u8 241, .int .u8 241, .int .u8 241, .int .u8 241, .int .u8 241, .int .u8 241, .int .u8 241, .int .u8 241, .int .u8 241, .int .u8 241, .int .u8 241, .int .u8 241, .int .u8 241, .int .u8 241, .int .u8 241, .int .u8 241, .int .u8 241, .int .u8 241, .int .u8 241, .int .u8 241, .int .u8 241, .int .u8 241, .int .u8 241, .int .u8 241, .int .u8 241, .int .u8 241, .int .u8 241, .int .u8 241, .int .u8 241, .int .u8 241, .int .u8 241, .int .u8 241, .int .u8 241, .int .u8 241, .int .u8 241, .int .u8 241, .int .u8 241, .int .u8 241, .int .u8 241, .int .u8 241, .int .u8 241, .int .u8 241, .int .u8 241, .int .u8 241, .int .u8 241, .int .u8 241, .int .u8 241, .int .u8 241, .int .u8 241, .int .u8 241, .int .u8 241, .int .u8 241, .int .u8 241, .int .u8 2, .int .u8 2, .int .u8 2, .int .u8 2, .int .u8 2, .int .u8 2, .int .u8 2, .int .u8 2, .int .u8 2, .int .u8 2, .int .u8 2, .int .u8 2, .int .u8 2, .int .u8 2, .int .u8 2, .int .u8 2, .int .u8 2, .int .u8 2, .int .u8 2, .int .u8 2, .int .u8 2, .int .u8 2, .int .u8 2, .int .u8 2, .int .u8 2, .int .u8 2, .int .u8 2, .int .u8 2, .int .u8 2, .int .u8 2, .int .u8 19, .int .u8 3, .int .u8 3, .int .u8 3, .int .u8 3, .int .u8 3, .int .u8 3, .int .u8 3, .int .u8 3, .int .u8 3, .int .u8 3, .int .u8 3, .int .u8 3, .int .u8 35, .int .u8 3, .int .u8 3, .int .u8 52, .int .u8 4, .int .u8 4, .int .u8 4, .int .u8 68, .int .u8 241, .int .u8 241, .int .u8 241, .int .u8 241, .int .u8 241, .int .u8 241, .int .u8 241, .int .u8 241, .int .u8 241, .int .u8 241, .int .u8 241])).modify 6 (setBlk #[.int .u8 128, .int .u8 191, .int .u8 160, .int .u8 191, .int .u8 128, .int .u8 159, .int .u8 144, .int .u8 191, .int .u8 128, .int .u8 143, .int .u8 0, .int .u8 0, .int .u8 0, .int .u8 0, .int .u8 0, .int .u8 0, .int .u8 0, .int .u8 0, .int .u8 0, .int .u8 0, .int .u8 0, .int .u8 0, .int .u8 0, .int .u8 0, .int .u8 0, .int .u8 0, .int .u8 0, .int .u8 0, .int .u8 0, .int .u8 0, .int .u8 0, .int .u8 0])).modify 7 (setBlk #[.int .u8 0, .int .u8 1, .int .u8 28, .int .u8 2, .int .u8 29, .int .u8 14, .int .u8 24, .int .u8 3, .int .u8 30, .int .u8 22, .int .u8 20, .int .u8 15, .int .u8 25, .int .u8 17, .int .u8 4, .int .u8 8, .int .u8 31, .int .u8 27, .int .u8 13, .int .u8 23, .int .u8 21, .int .u8 19, .int .u8 16, .int .u8 7, .int .u8 26, .int .u8 12, .int .u8 18, .int .u8 6, .int .u8 11, .int .u8 5, .int .u8 10, .int .u8 9])).modify 8 (setBlk #[.int .u8 0, .int .u8 1, .int .u8 56, .int .u8 2, .int .u8 57, .int .u8 49, .int .u8 28, .int .u8 3, .int .u8 61, .int .u8 58, .int .u8 42, .int .u8 50, .int .u8 38, .int .u8 29, .int .u8 17, .int .u8 4, .int .u8 62, .int .u8 47, .int .u8 59, .int .u8 36, .int .u8 45, .int .u8 43, .int .u8 51, .int .u8 22, .int .u8 53, .int .u8 39, .int .u8 33, .int .u8 30, .int .u8 24, .int .u8 18, .int .u8 12, .int .u8 5, .int .u8 63, .int .u8 55, .int .u8 48, .int .u8 27, .int .u8 60, .int .u8 41, .int .u8 37, .int .u8 16, .int .u8 46, .int .u8 35, .int .u8 44, .int .u8 21, .int .u8 52, .int .u8 32, .int .u8 23, .int .u8 11, .int .u8 54, .int .u8 26, .int .u8 40, .int .u8 15, .int .u8 34, .int .u8 20, .int .u8 31, .int .u8 10, .int .u8 25, .int .u8 14, .int .u8 19, .int .u8 9, .int .u8 13, .int .u8 8, .int .u8 7, .int .u8 6]) }
theorem laid_met (os : Os) (args : Array Value) : laidMetH Tryd.prog laidL ((laidWorld os).forCall (fun _ _ => 0) ⟨#[], args, []⟩).memory :=
  (laidMet_of_run' 8 (by kernel_rfl) (by kernel_rfl) : laidMet Tryd.prog laidL _)
theorem laid_metR (os : Os) (args : Array Value) : laidMetH Tryd.prog laidLR ((laidWorld os).forCall (fun _ _ => 0) ⟨#[], args, []⟩).memory :=
  (laidMet_of_run' 8 (by kernel_rfl) (by kernel_rfl) : laidMet Tryd.prog laidLR _)
end Go.Proofs.YteadhacoglcbfaaDoor
