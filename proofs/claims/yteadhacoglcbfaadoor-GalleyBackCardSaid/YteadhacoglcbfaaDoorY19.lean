/- Part 19 of the proof: Pages that were read, as pages: two readings of the same data are the same. A galley: texts are read at all. The law GalleyReads: the pages of any text, or the first line that cannot stand where it is. Pages as texts and back, plain: what is read of any text has just this text; a text of pages is read as these pages, as far as it tells of them. The law GalleyPuts: the thing of any text; any thing's text is that of a thing. Whether pages are plain: the program's. -/
import Derived.Test.YteadhacoglcbfaaDoorZ18
import Derived.Laws.StructEq
namespace Go.Proofs.YteadhacoglcbfaaDoor

open Go.ChangeShapes Go.WideShapes Go.ChangeAt Go.RowKit Go.Shelf

theorem Row.ghost {α : Type} {w : World} {base n : Nat} {e : TypeId} {enc : α → List Value} {v : Value} {l l' : List α} (h : Row w base e n enc v l) (hn : l'.length = l.length) (hf : l'.flatMap enc = l.flatMap enc) : Row w base e n enc v l' := by
  unfold Row at h ⊢
  rw [hn, hf]
  exact h
theorem Row.slok {α : Type} {w : World} {base n : Nat} {e : TypeId} {enc : α → List Value} {a : Option Addr} {m c : Nat} {l : List α} (hn : ∀ x, (enc x).length = n) (h : Row w base e n enc (.slice a m c) l) : SlOk w n enc a m c l := by
  obtain ⟨a', c', e1, h1⟩ := h.sl hn
  simp only [Value.slice.injEq] at e1
  obtain ⟨rfl, rfl, rfl⟩ := e1
  exact h1
def laneT (y : Lane) : LnD := ⟨y.x, y.s.l⟩
def pageT (p : Page) : PgD := ⟨p.s.l.map laneT, p.t, p.f, p.l⟩
def LnD.ok (e : LnD) : Prop := I64 e.x ∧ ∀ p, p ∈ e.puts → p.ok
def PgD.ok (d : PgD) : Prop := I64 d.t ∧ I64 d.f ∧ I64 d.l ∧ ∀ e, e ∈ d.lanes → e.ok
def dsOk (ds : List PgD) : Prop := ∀ d, d ∈ ds → d.ok
theorem takeP_ds {ds ds' : List PgD} {s : List UInt8} (h : takeP ds s = some ds') (hd : dsOk ds) : dsOk ds' := by
  rcases takeP_some h with ⟨t, f, l, hp, rfl⟩ | ⟨es, d, x, rfl, hp, rfl⟩ | ⟨es, dl, e, t, f, l, wd, ns, q, rfl, hp, _, _, hq, rfl⟩
  · have hi := (parseP_ok hp).2.1
    intro d hm
    rcases List.mem_append.1 hm with hm | hm
    · exact hd d hm
    · rw [List.mem_singleton] at hm
      subst hm
      exact ⟨hi _ (by simp), hi _ (by simp), hi _ (by simp), fun e he => by cases he⟩
  · have hi := (parseP_ok hp).2.1
    intro d' hm
    have hdd := hd d (by simp)
    rcases List.mem_append.1 hm with hm | hm
    · exact hd d' (List.mem_append_left _ hm)
    · rw [List.mem_singleton] at hm
      subst hm
      refine ⟨hdd.1, hdd.2.1, hdd.2.2.1, fun e he => ?_⟩
      rcases List.mem_append.1 he with he | he
      · exact hdd.2.2.2 e he
      · rw [List.mem_singleton] at he
        subst he
        exact ⟨hi _ (by simp), fun p hp => by cases hp⟩
  · have hi := (parseP_ok hp).2.1
    have hdd := hd ⟨dl ++ [e], t, f, l⟩ (by simp)
    intro d' hm
    rcases List.mem_append.1 hm with hm | hm
    · exact hd d' (List.mem_append_left _ hm)
    · rw [List.mem_singleton] at hm
      subst hm
      refine ⟨hdd.1, hdd.2.1, hdd.2.2.1, fun e' he => ?_⟩
      rcases List.mem_append.1 he with he | he
      · exact hdd.2.2.2 e' (List.mem_append_left _ he)
      · rw [List.mem_singleton] at he
        subst he
        have hee := hdd.2.2.2 e (by simp)
        refine ⟨hee.1, fun p hp => ?_⟩
        rcases List.mem_append.1 hp with hp | hp
        · exact hee.2 p hp
        · rw [List.mem_singleton] at hp
          subst hp
          exact (putOf_ok hq hi).2.2
theorem dsK_ok {s : List UInt8} : ∀ {k : Nat} {ds : List PgD}, dsK s k = some ds → dsOk ds
  | 0, ds, h => by cases h; intro d hd; cases hd
  | k + 1, ds, h => by
    unfold dsK at h
    rw [Option.bind_eq_some_iff] at h
    obtain ⟨d, h1, h2⟩ := h
    exact takeP_ds h2 (dsK_ok h1)
/-- A lane with its own things told. -/
theorem ln_good {w : World} {base : Nat} {y : Lane} {e : LnD} (hx : y.x = e.x) (h : Row w base 33 5 Put.cells (.slice y.s.a y.s.len y.s.cap) e.puts) (ho : e.ok) : ∃ y' : Lane, y'.cells = y.cells ∧ y'.good w ∧ laneT y' = e :=
  ⟨⟨y.x, ⟨y.s.a, y.s.len, y.s.cap, e.puts⟩⟩, rfl, ⟨by rw [hx]; exact ho.1, h.slok (fun _ => rfl), ho.2⟩, by unfold laneT; rw [hx]⟩
theorem lns_good {F : List Nat} {w : World} {base : Nat} : ∀ {ll : List Lane} {dl : List LnD}, All2 (LnOk F w base) ll dl → (∀ e, e ∈ dl → e.ok) → ∃ ll' : List Lane, ll'.length = ll.length ∧ ll'.flatMap Lane.cells = ll.flatMap Lane.cells ∧ (∀ y, y ∈ ll' → y.good w) ∧ ll'.map laneT = dl
  | _, _, .nil, _ => ⟨[], rfl, rfl, (fun _ h => by cases h), rfl⟩
  | _, _, .snoc a b, ho => by
    obtain ⟨l1, h1, h2, h3, h4⟩ := lns_good a fun e he => ho e (List.mem_append_left _ he)
    obtain ⟨y', g1, g2, g3⟩ := ln_good b.1 b.2.1 (ho _ (List.mem_append_right _ (List.mem_singleton.2 rfl)))
    refine ⟨l1 ++ [y'], by rw [List.length_append, List.length_append, h1]; rfl, by rw [List.flatMap_append, List.flatMap_append, h2, List.flatMap_singleton, List.flatMap_singleton, g1], fun y hy => ?_, by rw [List.map_append, h4, List.map_singleton, g3]⟩
    rcases List.mem_append.1 hy with hy | hy
    · exact h3 y hy
    · rw [List.mem_singleton] at hy; subst hy; exact g2
theorem pg_of {w : World} {base : Nat} {p : Page} {d : PgD} {ll ll' : List Lane} (h1 : p.t = d.t) (h2 : p.f = d.f) (h3 : p.l = d.l) (hr : Row w base 46 2 Lane.cells (.slice p.s.a p.s.len p.s.cap) ll) (ho : d.ok)
    (q1 : ll'.length = ll.length) (q2 : ll'.flatMap Lane.cells = ll.flatMap Lane.cells) (q3 : ∀ y, y ∈ ll' → y.good w) (q4 : ll'.map laneT = d.lanes) : ∃ p' : Page, p'.cells = p.cells ∧ p'.good w ∧ pageT p' = d := by
  obtain ⟨o1, o2, o3, o4⟩ := ho
  refine ⟨⟨⟨p.s.a, p.s.len, p.s.cap, ll'⟩, p.t, p.f, p.l⟩, rfl, ⟨by rw [h1]; exact o1, by rw [h2]; exact o2, by rw [h3]; exact o3, (hr.ghost q1 q2).slok (fun _ => rfl), q3⟩, ?_⟩
  unfold pageT
  simp only [q4, h1, h2, h3]
theorem pg_good {F : List Nat} {w : World} {base : Nat} {p : Page} {d : PgD} (h : PgOk F w base p d) (ho : d.ok) : ∃ p' : Page, p'.cells = p.cells ∧ p'.good w ∧ pageT p' = d := by
  obtain ⟨h1, h2, h3, ll, h4, h5⟩ := h
  obtain ⟨ll', q1, q2, q3, q4⟩ := lns_good h5 ho.2.2.2
  exact pg_of h1 h2 h3 h4.1 ho q1 q2 q3 q4
theorem pgs_good {F : List Nat} {w : World} {base : Nat} : ∀ {ps : List Page} {ds : List PgD}, All2 (PgOk F w base) ps ds → dsOk ds → ∃ ps' : List Page, ps'.length = ps.length ∧ ps'.flatMap Page.cells = ps.flatMap Page.cells ∧ (∀ y, y ∈ ps' → y.good w) ∧ ps'.map pageT = ds
  | _, _, .nil, _ => ⟨[], rfl, rfl, (fun _ h => by cases h), rfl⟩
  | _, _, .snoc a b, ho => by
    obtain ⟨l1, h1, h2, h3, h4⟩ := pgs_good a fun e he => ho e (List.mem_append_left _ he)
    obtain ⟨y', g1, g2, g3⟩ := pg_good b (ho _ (List.mem_append_right _ (List.mem_singleton.2 rfl)))
    refine ⟨l1 ++ [y'], by rw [List.length_append, List.length_append, h1]; rfl, by rw [List.flatMap_append, List.flatMap_append, h2, List.flatMap_singleton, List.flatMap_singleton, g1], fun y hy => ?_, by rw [List.map_append, h4, List.map_singleton, g3]⟩
    rcases List.mem_append.1 hy with hy | hy
    · exact h3 y hy
    · rw [List.mem_singleton] at hy; subst hy; exact g2
theorem tip_good {F : List Nat} {w : World} {base : Nat} {p : Page} {d : PgD} (h : Tip F w base p d) (ho : d.ok) : ∃ p' : Page, p'.cells = p.cells ∧ p'.good w ∧ pageT p' = d := by
  obtain ⟨h1, h2, h3, ⟨e1, e2, e3, e4⟩ | ⟨ks, y, dl, e, e1, q1, q2, q3, q4, _, _⟩⟩ := h
  · obtain ⟨⟨pa, pn, pc, pl⟩, pt, pf, pq⟩ := p
    simp only at e2 e3 e4
    subst e2 e3 e4
    exact pg_of (base := base) (ll := []) (ll' := []) h1 h2 h3 (Row.nil _ _ _ _ _) ho rfl rfl (fun _ h => by cases h) (by rw [e1]; rfl)
  · have hoe : ∀ x, x ∈ dl ++ [e] → x.ok := by rw [← e1]; exact ho.2.2.2
    obtain ⟨l1, h1', h2', h3', h4'⟩ := lns_good q2 fun x hx => hoe x (List.mem_append_left _ hx)
    obtain ⟨y', g1, g2, g3⟩ := ln_good q3 q4 (hoe _ (List.mem_append_right _ (List.mem_singleton.2 rfl)))
    refine pg_of h1 h2 h3 q1 ho (ll' := l1 ++ [y']) (by rw [List.length_append, List.length_append, h1']; rfl) (by rw [List.flatMap_append, List.flatMap_append, h2', List.flatMap_singleton, List.flatMap_singleton, g1]) (fun z hz => ?_) (by rw [List.map_append, h4', List.map_singleton, g3, e1])
    rcases List.mem_append.1 hz with hz | hz
    · exact h3' z hz
    · rw [List.mem_singleton] at hz; subst hz; exact g2
/-- A state's pages. -/
theorem Rep.pages {w : World} {base : Nat} {v : Value} {ds : List PgD} (h : Rep w base v ds) (ho : dsOk ds) : ∃ (a : Option Addr) (c : Nat) (ps : List Page), v = .slice a ps.length c ∧ SlOk w 4 Page.cells a ps.length c ps ∧ (∀ p, p ∈ ps → p.good w) ∧ ps.map pageT = ds := by
  rcases h with ⟨rfl, rfl⟩ | ⟨F, qs, p, es, d, rfl, hr, hq, ht, _⟩
  · exact ⟨none, 0, [], rfl, ⟨rfl, Nat.le_refl _, Nat.zero_le _, .inl rfl⟩, (fun _ h => by cases h), rfl⟩
  · obtain ⟨l1, h1, h2, h3, h4⟩ := pgs_good hq fun e he => ho e (List.mem_append_left _ he)
    obtain ⟨p', g1, g2, g3⟩ := tip_good ht (ho _ (List.mem_append_right _ (List.mem_singleton.2 rfl)))
    have hr' := hr.ghost (l' := l1 ++ [p']) (by rw [List.length_append, List.length_append, h1]; rfl) (by rw [List.flatMap_append, List.flatMap_append, h2, List.flatMap_singleton, List.flatMap_singleton, g1])
    obtain ⟨a, c, hv, hs⟩ := hr'.sl (fun _ => rfl)
    refine ⟨a, c, l1 ++ [p'], hv, hs, fun z hz => ?_, by rw [List.map_append, h4, List.map_singleton, g3]⟩
    rcases List.mem_append.1 hz with hz | hz
    · exact h3 z hz
    · rw [List.mem_singleton] at hz; subst hz; exact g2
theorem eqL_map {α β : Type} {f : α → α → Bool} {g : α → β} : ∀ {a b : List α}, (∀ x y, x ∈ a → y ∈ b → g x = g y → f x y = true) → a.map g = b.map g → eqL f a b = true
  | [], [], _, _ => rfl
  | x :: a, y :: b, h, e => by
    simp only [List.map_cons, List.cons.injEq] at e
    unfold eqL
    rw [h x y List.mem_cons_self List.mem_cons_self e.1, Bool.true_and]
    exact eqL_map (fun x' y' hx hy => h x' y' (List.mem_cons_of_mem _ hx) (List.mem_cons_of_mem _ hy)) e.2
  | [], _ :: _, _, e => by simp at e
  | _ :: _, [], _, e => by simp at e
theorem eqPage_T (p q : Page) (h : pageT p = pageT q) : eqPage p q = true := by
  unfold pageT at h
  simp only [PgD.mk.injEq] at h
  obtain ⟨h1, h2, h3, h4⟩ := h
  unfold eqPage
  rw [h2, h3, h4]
  simp only [beq_self_eq_true, Bool.true_and]
  refine eqL_map (fun x y _ _ e => ?_) h1
  unfold laneT at e
  simp only [LnD.mk.injEq] at e
  obtain ⟨e1, e2⟩ := e
  unfold eqLane
  rw [e1, e2]
  simp only [beq_self_eq_true, Bool.true_and]
  exact eqL_map (g := id) (fun x y _ _ e => eqPut_iff.2 e) rfl
theorem eqPages_T {a b : List Page} (h : a.map pageT = b.map pageT) : eqL eqPage a b = true := eqL_map (fun x y _ _ e => eqPage_T x y e) h
/-- The pages of two readings of the same data are the same. -/
theorem same_rep {w : World} {b1 b2 : Nat} {v1 v2 : Value} {ds : List PgD} (h1 : Rep w b1 v1 ds) (h2 : Rep w b2 v2 ds) (ho : dsOk ds) : Calls Tryd.prog 9 #[v1, v2] w fun e w' => e = .returned (.bool true) ∧ Kp w w' := by
  obtain ⟨a1, c1, p1, rfl, s1, g1, m1⟩ := h1.pages ho
  obtain ⟨a2, c2, p2, rfl, s2, g2, m2⟩ := h2.pages ho
  have h := same38_any a1 a2 c1 c2 p1 p2 w s1 g1 s2 g2
  rw [eqPages_T (m1.trans m2.symm)] at h
  exact h
end Go.Proofs.YteadhacoglcbfaaDoor
namespace Go.Proofs.YteadhacoglcbfaaDoor

open Go.ChangeShapes Go.WideShapes Go.ChangeAt Go.RowKit Go.Shelf

set_option maxHeartbeats 1000000 in
theorem eqPt (d : Nat) (w : World) (a0 a1 a2 a3 a4 b0 b1 b2 b3 b4 : Int) :
    (Op.equalIn (d + 3) 33 (.agg #[.int .i64 a0, .int .i64 a1, .int .i64 a2, .int .i64 a3, .int .i64 a4]) (.agg #[.int .i64 b0, .int .i64 b1, .int .i64 b2, .int .i64 b3, .int .i64 b4])).run Tryd.prog w = .ok (a0 == b0 && (a1 == b1 && (a2 == b2 && (a3 == b3 && a4 == b4)))) w := by
  have hu := Tryd.underlying33
  go_simp
  clear hu
  by_cases h0 : a0 = b0 <;> by_cases h1 : a1 = b1 <;> by_cases h2 : a2 = b2 <;> by_cases h3 : a3 = b3 <;> by_cases h4 : a4 = b4 <;> simp_all
abbrev aw4 : List UInt8 := [114, 117, 108, 101, 32, 52, 32, 49]
theorem awP4 : putP aw4 = some ⟨3, 0, 0, 4, 1⟩ := by
  have e : aw4 = lineL wRule [4, 1] := by simp [lineL, numL, ig4, ig1]
  unfold putP
  rw [e, parseP_line (by decide) (by unfold I64; decide)]
  rfl
def lines1 : Nat → List UInt8
  | 0 => aw1
  | 1 => aw2
  | _ => aw3
def rests1 : Nat → List UInt8
  | 0 => [112, 97, 103, 101, 32, 48, 32, 45, 49, 32, 53, 32, 53, 10, 108, 97, 110, 101, 32, 51, 10, 98, 111, 120, 32, 50, 32, 48, 32, 51, 10]
  | 1 => [108, 97, 110, 101, 32, 51, 10, 98, 111, 120, 32, 50, 32, 48, 32, 51, 10]
  | 2 => [98, 111, 120, 32, 50, 32, 48, 32, 51, 10]
  | _ => []
def lines2 : Nat → List UInt8 := fun _ => aw1
def rests2 : Nat → List UInt8
  | 0 => [112, 97, 103, 101, 32, 48, 32, 45, 49, 32, 53, 32, 53, 10, 98, 111, 120, 32, 50, 32, 48, 32, 51, 10]
  | _ => [98, 111, 120, 32, 50, 32, 48, 32, 51, 10]
theorem chain1 (W : World) (he : Env W) : Chain W 3 lines1 rests1 (AwT W.heap.size) := by
  refine ⟨fun _ _ _ _ _ k h => h.kp k, fun _ _ _ _ _ _ _ hB h => h.bool hB, fun _ _ _ _ h => ⟨h.1, h.sl⟩, fun k hk => ?_, fun k => ?_, fun k O v w1 S hk _ k1 hA hS => ?_⟩
  · obtain rfl | rfl | rfl : k = 0 ∨ k = 1 ∨ k = 2 := by omega
    · exact ⟨by decide, by decide⟩
    · exact ⟨by decide, by decide⟩
    · exact ⟨by decide, by decide⟩
  · unfold rests1; split <;> decide
  · obtain rfl | rfl | rfl : k = 0 ∨ k = 1 ∨ k = 2 := by omega
    · exact step0 W O S v w1 he k1 hA hS
    · exact step1 W O S v w1 he k1 hA hS
    · exact step2 W O S v w1 he k1 hA hS
theorem chain2 (W : World) (he : Env W) : Chain W 1 lines2 rests2 (AwT W.heap.size) := by
  refine ⟨fun _ _ _ _ _ k h => h.kp k, fun _ _ _ _ _ _ _ hB h => h.bool hB, fun _ _ _ _ h => ⟨h.1, h.sl⟩, fun k hk => ?_, fun k => ?_, fun k O v w1 S hk _ k1 hA hS => ?_⟩
  · obtain rfl : k = 0 := by omega
    exact ⟨by decide, by decide⟩
  · unfold rests2; split <;> decide
  · obtain rfl : k = 0 := by omega
    exact step0 W O S v w1 he k1 hA hS
theorem aw_start (W : World) (O : Nat) (w1 : World) (hO : W.heap.size ≤ O) (k1 : Kp W w1) (hB : Blk w1 O [.slice none 0 0] 23) : AwT W.heap.size 0 O (.slice none 0 0) w1 := ⟨hB, k1.size, hO, rfl⟩
theorem aw_read1 (W : World) (he : Env W) : Calls Tryd.prog 7 #[sv (rests1 0)] W fun e w' => Kp W w' ∧ ∃ O v, e = .returned (.tuple #[v, .int .i64 0]) ∧ AwT W.heap.size 3 O v w' :=
  read_done W 3 lines1 rests1 _ (chain1 W he) he (by decide) rfl (fun O w1 h1 h2 h3 => aw_start W O w1 h1 h2 h3)
theorem aw_read2 (W : World) (he : Env W) : Calls Tryd.prog 7 #[sv (rests2 0)] W fun e w' => e = .returned (.tuple #[.slice none 0 0, .int .i64 2]) ∧ Kp W w' :=
  read_bad W 1 lines2 rests2 _ (chain2 W he) he (by decide) aw3 [] (by decide) (by decide) (fun O v w1 S _ k1 hA hS => stepBad W O S v w1 he k1 hA hS) (fun O w1 h1 h2 h3 => aw_start W O w1 h1 h2 h3)
set_option maxRecDepth 100000 in
set_option maxHeartbeats 8000000 in
theorem awake51_any (w : World) (he : Env w) : Calls Tryd.prog 6 #[] w fun e w' => e = .returned (.bool true) ∧ Kp w w' := by
  have HE := Lib.hid he
  have eP := @eqPt
  clear he
  go_enter Tryd.func6, Tryd.ntmps6
  go_wp2_with fail
  refine Calls.mono (aw_read1 _ HE.out) ?_
  rintro e w1 ⟨k1, O, v, rfl, hA⟩
  go_wp2_with fail
  refine Calls.mono (aw_read2 _ (HE.out.kp k1)) ?_
  rintro e w2 ⟨rfl, k2⟩
  have kw2 := k1.trans k2
  go_wp2_with fail
  refine Calls.mono (galleyPut_any aw4 (by decide) _ (HE.out.kp kw2)) ?_
  rintro e w3 ⟨k3, hh⟩
  obtain rfl : e = .returned (.tuple #[.agg #[.int .i64 3, .int .i64 0, .int .i64 0, .int .i64 4, .int .i64 1], .bool true]) := by
    rcases hh with ⟨p, hp, e1⟩ | ⟨hp, _⟩
    · rw [awP4] at hp
      cases hp
      exact e1
    · rw [awP4] at hp
      cases hp
  have kw3 := kw2.trans k3
  obtain ⟨_, _, _, hA3⟩ := hA.kp (k2.trans k3)
  obtain ⟨g, c, h, lc, j, pc, rfl, r1, r2, r3⟩ : ∃ g c h lc j pc, v = .slice (some ⟨g, 0, none⟩) 1 c ∧ Row w3 w.heap.size 49 4 Page.cells v [pg (some ⟨h, 0, none⟩) 1 lc []] ∧ Row w3 w.heap.size 46 2 Lane.cells (.slice (some ⟨h, 0, none⟩) 1 lc) [ln (some ⟨j, 0, none⟩) 1 pc []] ∧ Row w3 w.heap.size 33 5 Put.cells (.slice (some ⟨j, 0, none⟩) 1 pc) [⟨1, 2, 0, 0, 3⟩] := hA3
  obtain ⟨-, q1, q1m⟩ := r1.shape1 (by simp)
  obtain ⟨-, q2, q2m⟩ := r2.shape1 (by simp)
  obtain ⟨-, q3, q3m⟩ := r3.shape1 (by simp)
  unfold maxLen at q1m q2m q3m
  have d0 : w3.cell? ⟨g, 0, none⟩ = some (.slice (some ⟨h, 0, none⟩) 1 lc) := Row.cellN (enc := Page.cells) (fun _ => rfl) r1 rfl (k := 0) rfl (j := 0) rfl
  have d1 : w3.cell? ⟨h, 1, none⟩ = some (.slice (some ⟨j, 0, none⟩) 1 pc) := Row.cellN (enc := Lane.cells) (fun _ => rfl) r2 rfl (k := 0) rfl (j := 1) rfl
  have d2 : w3.cell? ⟨j, 1, none⟩ = some (.int .i64 2) := Row.cellN (enc := Put.cells) (fun _ => rfl) r3 rfl (k := 0) rfl (j := 1) rfl
  have b1 := (r1.lt g rfl).2
  have b2 := (r2.lt h rfl).2
  have b3 := (r3.lt j rfl).2
  clear hA r1 r2 r3 hh k1 k2 k3
  go_wp2_with fail
  (try go_ret)
  exact ⟨by first | rfl | (rw [ret_bool]; decide), (by (repeat (first | with_reducible assumption | with_reducible exact Kp.refl _ | with_reducible refine Kp.drew ?_ | with_reducible refine Kp.drewN ?_ _ | with_reducible refine Kp.alloc ?_ _ | ((with_reducible refine Kp.setCell ?_ ?_ _); rotate_left; (focus (first | omega | (simp; done) | (simp; omega)))) | with_reducible refine Kp.trans ?_ (by assumption))))⟩
end Go.Proofs.YteadhacoglcbfaaDoor
namespace Go.Proofs.YteadhacoglcbfaaDoor

open Go.ChangeShapes Go.WideShapes Go.ChangeAt Go.RowKit Go.Shelf

theorem gal_pair {s : List UInt8} {W w1 : World} {e : Ending} (h : GalEnd s W e w1) (_hN : s.length ≤ 2000) : ∃ a n c z, e = .returned (.tuple #[.slice a n c, .int .i64 z]) ∧ Kp W w1 ∧
    ∀ w1' e2 w2, Kp w1 w1' → RefEnd s w1' e2 w2 → ∃ a2 n2 c2 b, e2 = .returned (.agg #[.slice a2 n2 c2, .int .i64 z, .bool b]) ∧ Kp w1' w2 ∧ ∀ w3, Kp w2 w3 → Calls Tryd.prog 9 #[.slice a n c, .slice a2 n2 c2] w3 fun e w' => e = .returned (.bool true) ∧ Kp w3 w' := by
  obtain ⟨k1, N, hg, hb, ⟨hr, ds, v, hd, rfl, hR⟩ | ⟨hr, rfl⟩⟩ := h
  · obtain ⟨a, c, rfl⟩ := hR.sl
    refine ⟨a, _, c, 0, rfl, k1, fun w1' e2 w2 kk h2 => ?_⟩
    obtain ⟨k2, M, hg2, hb2, h2⟩ := h2
    obtain rfl := good_uniq hg hb hg2 hb2
    rcases h2 with ⟨_, ds2, v2, hd2, rfl, hR2⟩ | ⟨hr2, _⟩
    · rw [hd] at hd2
      cases hd2
      obtain ⟨a2, c2, rfl⟩ := hR2.sl
      exact ⟨a2, _, c2, true, rfl, k2, fun w3 k3 => same_rep (hR.move (Typed.kp ((kk.trans k2).trans k3))) (hR2.move (Typed.kp k3)) (dsK_ok hd)⟩
    · exact absurd hr hr2
  · refine ⟨none, 0, 0, _, rfl, k1, fun w1' e2 w2 kk h2 => ?_⟩
    obtain ⟨k2, M, hg2, hb2, h2⟩ := h2
    obtain rfl := good_uniq hg hb hg2 hb2
    rcases h2 with ⟨hr2, _⟩ | ⟨_, rfl⟩
    · exact absurd hr2 hr
    · exact ⟨none, 0, 0, false, rfl, k2, fun w3 _ => same_rep (ds := []) (rep_nil w3 0) (rep_nil w3 0) (fun d hd => by cases hd)⟩
set_option maxRecDepth 100000 in
set_option maxHeartbeats 8000000 in
theorem galleyReads_main (s : List UInt8) (w : World) (he : Env w) (hs : s.length ≤ 2000) : Calls Tryd.prog 3 #[sv s] w fun e w' => e = .returned (.bool true) ∧ Kp w w' := by
  have CG : Hid (∀ w', Kp w w' → Calls Tryd.prog 7 #[sv s] w' (GalEnd s w')) := Lib.hid fun w' k => galRead_any s w' (he.kp k) (by omega) (fun k => by
    have h1 := (cut_le (restK s k)).1
    have h2 := rest_le s k
    unfold lineK
    omega) (fun N hg => by have := rest_len s N hg; omega)
  have CR : Hid (∀ w', Calls Tryd.prog 8 #[sv s] w' (RefEnd s w')) := Lib.hid fun w' => refRead51_any s hs w'
  have CAW : Hid (∀ w', Kp w w' → Calls Tryd.prog 6 #[] w' fun e w'' => e = .returned (.bool true) ∧ Kp w' w'') := Lib.hid fun w' k => awake51_any w' (he.kp k)
  have HS := Lib.hid hs
  have j1 : decide ((2000 : Int) < (s.length : Int)) = false := decide_eq_false (by omega)
  clear he hs
  go_enter Tryd.func3, Tryd.ntmps3
  go_wp2_with fail
  refine (CG.out _ (by (repeat (first | with_reducible assumption | with_reducible exact Kp.refl _ | with_reducible refine Kp.drew ?_ | with_reducible refine Kp.drewN ?_ _ | with_reducible refine Kp.alloc ?_ _ | ((with_reducible refine Kp.setCell ?_ ?_ _); rotate_left; (focus (first | omega | (simp; done) | (simp; omega)))) | with_reducible refine Kp.trans ?_ (by assumption))))).mono ?_
  intro e w1 h1
  obtain ⟨a, n, c, z, rfl, k1, hp⟩ := gal_pair h1 HS.out
  have HP := Lib.hid hp
  have kw1 : Kp w w1 := ((by (repeat (first | with_reducible assumption | with_reducible exact Kp.refl _ | with_reducible refine Kp.drew ?_ | with_reducible refine Kp.drewN ?_ _ | with_reducible refine Kp.alloc ?_ _ | ((with_reducible refine Kp.setCell ?_ ?_ _); rotate_left; (focus (first | omega | (simp; done) | (simp; omega)))) | with_reducible refine Kp.trans ?_ (by assumption)))) : Kp w _).trans k1
  clear h1 hp k1
  go_wp2_with fail
  refine (CR.out _).mono ?_
  intro e w2 h2
  obtain ⟨a2, n2, c2, b, rfl, k2, hsm⟩ := HP.out _ _ _ (by (repeat (first | with_reducible assumption | with_reducible exact Kp.refl _ | with_reducible refine Kp.drew ?_ | with_reducible refine Kp.drewN ?_ _ | with_reducible refine Kp.alloc ?_ _ | ((with_reducible refine Kp.setCell ?_ ?_ _); rotate_left; (focus (first | omega | (simp; done) | (simp; omega)))) | with_reducible refine Kp.trans ?_ (by assumption)))) h2
  have HSM := Lib.hid hsm
  have kw2 : Kp w w2 := kw1.trans (((by (repeat (first | with_reducible assumption | with_reducible exact Kp.refl _ | with_reducible refine Kp.drew ?_ | with_reducible refine Kp.drewN ?_ _ | with_reducible refine Kp.alloc ?_ _ | ((with_reducible refine Kp.setCell ?_ ?_ _); rotate_left; (focus (first | omega | (simp; done) | (simp; omega)))) | with_reducible refine Kp.trans ?_ (by assumption)))) : Kp w1 _).trans k2)
  clear h2 hsm k2
  go_wp2_with fail
  refine (HSM.out _ (by (repeat (first | with_reducible assumption | with_reducible exact Kp.refl _ | with_reducible refine Kp.drew ?_ | with_reducible refine Kp.drewN ?_ _ | with_reducible refine Kp.alloc ?_ _ | ((with_reducible refine Kp.setCell ?_ ?_ _); rotate_left; (focus (first | omega | (simp; done) | (simp; omega)))) | with_reducible refine Kp.trans ?_ (by assumption))))).mono ?_
  rintro e w3 ⟨rfl, k3⟩
  have kw3 : Kp w w3 := kw2.trans (((by (repeat (first | with_reducible assumption | with_reducible exact Kp.refl _ | with_reducible refine Kp.drew ?_ | with_reducible refine Kp.drewN ?_ _ | with_reducible refine Kp.alloc ?_ _ | ((with_reducible refine Kp.setCell ?_ ?_ _); rotate_left; (focus (first | omega | (simp; done) | (simp; omega)))) | with_reducible refine Kp.trans ?_ (by assumption)))) : Kp w2 _).trans k3)
  go_wp2_with fail
  refine (CAW.out _ kw3).mono ?_
  rintro e w4 ⟨rfl, k4⟩
  go_wp2_with fail
  (try go_ret)
  exact ⟨rfl, kw3.trans k4⟩
set_option maxHeartbeats 1000000 in
theorem galleyReads_far (s : List UInt8) (w : World) (he : Env w) (h : 2000 < s.length) (h2 : s.length ≤ 9223372036854775807) :
    Calls Tryd.prog 3 #[sv s] w fun e w' => e = .returned (.bool true) ∧ Kp w w' := by
  have HE := Lib.hid he
  have j1 : decide ((2000 : Int) < (s.length : Int)) = true := decide_eq_true (by omega)
  have j2 : decide (2000 < s.length) = true := decide_eq_true (by omega)
  clear he
  go_enter Tryd.func3, Tryd.ntmps3
  go_wp2_with fail
  refine (awake51_any _ (HE.out.kp (by (repeat (first | with_reducible assumption | with_reducible exact Kp.refl _ | with_reducible refine Kp.drew ?_ | with_reducible refine Kp.drewN ?_ _ | with_reducible refine Kp.alloc ?_ _ | ((with_reducible refine Kp.setCell ?_ ?_ _); rotate_left; (focus (first | omega | (simp; done) | (simp; omega)))) | with_reducible refine Kp.trans ?_ (by assumption)))))).mono ?_
  rintro e w1 ⟨rfl, k1⟩
  go_wp2_with fail
  (try go_ret)
  exact ⟨rfl, ((by (repeat (first | with_reducible assumption | with_reducible exact Kp.refl _ | with_reducible refine Kp.drew ?_ | with_reducible refine Kp.drewN ?_ _ | with_reducible refine Kp.alloc ?_ _ | ((with_reducible refine Kp.setCell ?_ ?_ _); rotate_left; (focus (first | omega | (simp; done) | (simp; omega)))) | with_reducible refine Kp.trans ?_ (by assumption)))) : Kp w _).trans k1⟩
theorem galleyReads_row (a : ByteArray) (w : World) (ha : a.size ≤ 140737488351232) (he : Env w) :
    Calls Tryd.prog 3 #[.string a] w fun e w' => e = .returned (.bool true) ∧ Kp w w' := by
  obtain ⟨⟨l⟩⟩ := a
  have hl : l.length ≤ 140737488351232 := ha
  by_cases h : 2000 < l.length
  · exact galleyReads_far l w he h (by omega)
  · exact galleyReads_main l w he (by omega)
end Go.Proofs.YteadhacoglcbfaaDoor
namespace Go.Proofs.YteadhacoglcbfaaDoor

open Go.ChangeShapes Go.WideShapes Go.ChangeAt Go.RowKit Go.Shelf

def laneTx (e : LnD) : List UInt8 := (lineL wLane [e.x] ++ [10]) ++ e.puts.flatMap putN
def pageTx (i : Nat) (d : PgD) : List UInt8 := (lineL wPage [(i : Int), d.t, d.f, d.l] ++ [10]) ++ d.lanes.flatMap laneTx
/-- The text of pages, the first of which has the number i. -/
def textF : Nat → List PgD → List UInt8
  | _, [] => []
  | i, d :: ds => pageTx i d ++ textF (i + 1) ds
theorem textF_snoc (d : PgD) : ∀ (ds : List PgD) (i : Nat), textF i (ds ++ [d]) = textF i ds ++ pageTx (i + ds.length) d
  | [], i => by simp [textF]
  | e :: ds, i => by
    rw [List.cons_append]
    unfold textF
    rw [textF_snoc d ds (i + 1), List.append_assoc, List.length_cons]
    congr 3
    omega
theorem pageTx_T (i : Nat) (p : Page) : pageL i p = pageTx i (pageT p) := by
  unfold pageL pageTx pageT pageH
  simp only
  rw [List.flatMap_map]
  rfl
theorem pagesN_T (l : List Page) : ∀ (k : Nat), k ≤ l.length → pagesN l k = textF 0 ((l.take k).map pageT)
  | 0, _ => by simp [pagesN, textF]
  | k + 1, hk => by
    have hx : l[k]? = some l[k] := List.getElem?_eq_getElem (by omega)
    rw [pagesN_succ hx, pagesN_T l k (by omega), List.take_add_one, hx]
    simp only [Option.toList_some, List.map_append, List.map_cons, List.map_nil]
    rw [textF_snoc, pageTx_T]
    simp [List.length_take]
    congr 1
    omega
theorem pagesN_text (l : List Page) : pagesN l l.length = textF 0 (l.map pageT) := by
  rw [pagesN_T l l.length (Nat.le_refl _), List.take_length]
/-- A line more is its text more. -/
theorem takeP_text {ds ds' : List PgD} {s : List UInt8} (h : takeP ds s = some ds') : textF 0 ds' = textF 0 ds ++ (s ++ [10]) := by
  rcases takeP_some h with ⟨t, f, l, hp, rfl⟩ | ⟨es, d, x, rfl, hp, rfl⟩ | ⟨es, dl, e, t, f, l, wd, ns, q, rfl, hp, _, _, hq, rfl⟩
  · rw [textF_snoc, (parseP_ok hp).1]
    simp [pageTx]
  · rw [textF_snoc, textF_snoc, (parseP_ok hp).1]
    simp [pageTx, laneTx]
  · obtain ⟨h1, h2, _⟩ := parseP_ok hp
    have h3 := (putOf_ok hq h2).1
    rw [textF_snoc, textF_snoc, h1, h3]
    simp [pageTx, laneTx, putN]
theorem read_text {s : List UInt8} : ∀ {k : Nat} {ds : List PgD}, (∀ j, j < k → Good s j) → dsK s k = some ds → textF 0 ds ++ restK s k = s
  | 0, ds, _, h => by cases h; rfl
  | k + 1, ds', hg, h => by
    unfold dsK at h
    rw [Option.bind_eq_some_iff] at h
    obtain ⟨ds, h1, h2⟩ := h
    have ih := read_text (fun j hj => hg j (by omega)) h1
    obtain ⟨a, _, e1, e2⟩ := cut_short _ (hg k (by omega)).2.1
    have e3 : lineK s k = a := e2
    rw [takeP_text h2, e3, List.append_assoc, List.append_assoc]
    have e4 : restK s (k + 1) = (Lib.cut (restK s k) [10]).2.1 := rfl
    rw [e4, List.singleton_append, ← e1]
    exact ih
def glue (ls : List (List UInt8)) : List UInt8 := ls.flatMap fun a => a ++ [10]
theorem glue_cons (a : List UInt8) (ls : List (List UInt8)) : glue (a :: ls) = a ++ 10 :: glue ls := by
  unfold glue
  rw [List.flatMap_cons, List.append_assoc]; rfl
theorem glue_app (a b : List (List UInt8)) : glue (a ++ b) = glue a ++ glue b := by unfold glue; rw [List.flatMap_append]
theorem drop_glue (ls : List (List UInt8)) {k : Nat} (hk : k < ls.length) : glue (ls.drop k) = ls[k] ++ 10 :: glue (ls.drop (k + 1)) := by
  rw [List.drop_eq_getElem_cons hk, glue_cons]
theorem glue_rest {ls : List (List UInt8)} (h10 : ∀ a, a ∈ ls → (10 : UInt8) ∉ a) : ∀ (k : Nat), k ≤ ls.length → restK (glue ls) k = glue (ls.drop k)
  | 0, _ => rfl
  | k + 1, hk => by
    show (Lib.cut (restK (glue ls) k) [10]).2.1 = _
    rw [glue_rest h10 k (by omega), drop_glue ls (by omega), cut10_at _ _ (h10 _ (List.getElem_mem _))]
theorem glue_line {ls : List (List UInt8)} (h10 : ∀ a, a ∈ ls → (10 : UInt8) ∉ a) {k : Nat} (hk : k < ls.length) : lineK (glue ls) k = ls[k] := by
  unfold lineK
  rw [glue_rest h10 k (by omega), drop_glue ls hk, cut10_at _ _ (h10 _ (List.getElem_mem _))]
theorem glue_ds {ls : List (List UInt8)} (h10 : ∀ a, a ∈ ls → (10 : UInt8) ∉ a) : ∀ (k : Nat), k ≤ ls.length → dsK (glue ls) k = (ls.take k).foldlM takeP []
  | 0, _ => rfl
  | k + 1, hk => by
    have hx : ls[k]? = some ls[k] := List.getElem?_eq_getElem (by omega)
    show (dsK (glue ls) k).bind (fun ds => takeP ds (lineK (glue ls) k)) = _
    rw [glue_ds h10 k (by omega), glue_line h10 (by omega), List.take_add_one, hx, List.foldlM_append]
    cases (ls.take k).foldlM takeP [] with
    | none => rfl
    | some ds =>
      simp only [Option.toList_some, List.foldlM_cons, List.foldlM_nil]
      show takeP ds ls[k] = (takeP ds ls[k]).bind fun x => some x
      cases takeP ds ls[k] <;> rfl
/-- Lines that can all stand are read. -/
theorem glue_good {ls : List (List UInt8)} (h10 : ∀ a, a ∈ ls → (10 : UInt8) ∉ a) {ds : List PgD} (hf : ls.foldlM takeP [] = some ds) :
    (∀ j, j < ls.length → Good (glue ls) j) ∧ restK (glue ls) ls.length = [] ∧ dsK (glue ls) ls.length = some ds := by
  refine ⟨fun j hj => ⟨?_, ?_, ?_⟩, ?_, ?_⟩
  · rw [glue_rest h10 j (by omega), drop_glue ls hj]
    simp
  · rw [glue_rest h10 j (by omega), drop_glue ls hj, cut10_at _ _ (h10 _ (List.getElem_mem _))]
  · rw [glue_ds h10 (j + 1) (by omega)]
    cases h : (ls.take (j + 1)).foldlM takeP [] with
    | some _ => rfl
    | none =>
      rw [← List.take_append_drop (j + 1) ls, List.foldlM_append, h] at hf
      cases hf
  · rw [glue_rest h10 _ (Nat.le_refl _), List.drop_length]; rfl
  · rw [glue_ds h10 _ (Nat.le_refl _), List.take_length]; exact hf
theorem glue_len {ls : List (List UInt8)} (h : ∀ a, a ∈ ls → a.length ≤ 201) : (glue ls).length ≤ ls.length * 202 :=
  flat_bound (C := 202) fun a ha => by rw [List.length_append, List.length_singleton]; have := h a ha; omega
theorem cut_nil : Lib.cut [] [10] = ([], [], false) := cut10_no [] (by simp)
theorem glue_lines {ls : List (List UInt8)} (h10 : ∀ a, a ∈ ls → (10 : UInt8) ∉ a) (h : ∀ a, a ∈ ls → a.length ≤ 201) (k : Nat) : (lineK (glue ls) k).length ≤ 10000 := by
  by_cases hk : k < ls.length
  · rw [glue_line h10 hk]
    have := h _ (List.getElem_mem hk)
    omega
  · have hz : ∀ j, restK (glue ls) (ls.length + j) = [] := by
      intro j
      induction j with
      | zero => rw [Nat.add_zero, glue_rest h10 _ (Nat.le_refl _), List.drop_length]; rfl
      | succ j ih =>
        show (Lib.cut (restK (glue ls) (ls.length + j)) [10]).2.1 = []
        rw [ih, cut_nil]
    have := hz (k - ls.length)
    rw [Nat.add_sub_of_le (by omega)] at this
    unfold lineK
    rw [this, cut_nil]
    exact Nat.zero_le _
/-- The lines of pages. -/
def laneLs (e : LnD) : List (List UInt8) := lineL wLane [e.x] :: e.puts.map putL
def pageLs (i : Nat) (d : PgD) : List (List UInt8) := lineL wPage [(i : Int), d.t, d.f, d.l] :: d.lanes.flatMap laneLs
def linesF : Nat → List PgD → List (List UInt8)
  | _, [] => []
  | i, d :: ds => pageLs i d ++ linesF (i + 1) ds
theorem glue_flat {α : Type} (f : α → List (List UInt8)) (g : α → List UInt8) (h : ∀ x, glue (f x) = g x) : ∀ (l : List α), glue (l.flatMap f) = l.flatMap g
  | [] => rfl
  | x :: l => by rw [List.flatMap_cons, List.flatMap_cons, glue_app, h, glue_flat f g h l]
theorem glue_lane (e : LnD) : glue (laneLs e) = laneTx e := by
  unfold laneLs laneTx
  rw [glue_cons]
  have : glue (e.puts.map putL) = e.puts.flatMap putN := by
    unfold glue
    rw [List.flatMap_map]; rfl
  rw [this]
  simp
theorem glue_page (i : Nat) (d : PgD) : glue (pageLs i d) = pageTx i d := by
  unfold pageLs pageTx
  rw [glue_cons, glue_flat laneLs laneTx glue_lane]
  simp
theorem glue_linesF : ∀ (ds : List PgD) (i : Nat), glue (linesF i ds) = textF i ds
  | [], _ => rfl
  | d :: ds, i => by
    unfold linesF textF
    rw [glue_app, glue_page, glue_linesF ds]
def normLn (e : LnD) : LnD := ⟨e.x, e.puts.map Put.norm⟩
def normPg (d : PgD) : PgD := ⟨d.lanes.map normLn, d.t, d.f, d.l⟩
theorem headW_putL (p : Put) : headW (putL p) ≠ wPage ∧ headW (putL p) ≠ wLane := by
  unfold putL
  repeat' split
  all_goals
    rw [headW_line (by decide)]
    exact ⟨by decide, by decide⟩
theorem fold_puts (es : List PgD) (ls : List LnD) (x t f l : Int) : ∀ (qs ps : List Put), (∀ q, q ∈ qs → q.ok) →
    (qs.map putL).foldlM takeP (es ++ [⟨ls ++ [⟨x, ps⟩], t, f, l⟩]) = some (es ++ [⟨ls ++ [⟨x, ps ++ qs.map Put.norm⟩], t, f, l⟩])
  | [], ps, _ => by simp
  | q :: qs, ps, h => by
    rw [List.map_cons, List.foldlM_cons, takeP_put (headW_putL q).1 (headW_putL q).2, putP_putL (h q List.mem_cons_self)]
    simp only
    show (qs.map putL).foldlM takeP (es ++ [⟨ls ++ [⟨x, ps ++ [q.norm]⟩], t, f, l⟩]) = _
    rw [fold_puts es ls x t f l qs (ps ++ [q.norm]) fun q' hq => h q' (List.mem_cons_of_mem _ hq)]
    simp
theorem fold_lanes (es : List PgD) (t f l : Int) : ∀ (dl ls : List LnD), (∀ e, e ∈ dl → e.ok) →
    (dl.flatMap laneLs).foldlM takeP (es ++ [⟨ls, t, f, l⟩]) = some (es ++ [⟨ls ++ dl.map normLn, t, f, l⟩])
  | [], ls, _ => by simp
  | e :: dl, ls, h => by
    obtain ⟨hx, hp⟩ := h e List.mem_cons_self
    have h1 : takeP (es ++ [⟨ls, t, f, l⟩]) (lineL wLane [e.x]) = some (es ++ [⟨ls ++ [⟨e.x, []⟩], t, f, l⟩]) := by
      unfold takeP
      rw [parseP_line (by decide) (by simpa using hx)]
      simp
    rw [List.flatMap_cons, List.foldlM_append]
    have h2 : (laneLs e).foldlM takeP (es ++ [⟨ls, t, f, l⟩]) = some (es ++ [⟨ls ++ [normLn e], t, f, l⟩]) := by
      unfold laneLs
      rw [List.foldlM_cons, h1]
      show (e.puts.map putL).foldlM takeP (es ++ [⟨ls ++ [⟨e.x, []⟩], t, f, l⟩]) = _
      rw [fold_puts es ls e.x t f l e.puts [] hp]
      rfl
    rw [h2]
    show (dl.flatMap laneLs).foldlM takeP (es ++ [⟨ls ++ [normLn e], t, f, l⟩]) = _
    rw [fold_lanes es t f l dl (ls ++ [normLn e]) fun e' he => h e' (List.mem_cons_of_mem _ he)]
    simp
theorem fold_pages : ∀ (ds es : List PgD), dsOk ds → es.length + ds.length ≤ 1000000 → (linesF es.length ds).foldlM takeP es = some (es ++ ds.map normPg)
  | [], es, _, _ => by simp [linesF]
  | d :: ds, es, h, hn => by
    rw [List.length_cons] at hn
    obtain ⟨o1, o2, o3, o4⟩ := h d List.mem_cons_self
    have h1 : takeP es (lineL wPage [(es.length : Int), d.t, d.f, d.l]) = some (es ++ [⟨[], d.t, d.f, d.l⟩]) := by
      unfold takeP
      rw [parseP_line (by decide) fun n hm => by
        simp only [List.mem_cons, List.not_mem_nil, or_false] at hm
        rcases hm with rfl | rfl | rfl | rfl
        · unfold I64; omega
        · exact o1
        · exact o2
        · exact o3]
      simp
    unfold linesF
    rw [List.foldlM_append]
    have h2 : (pageLs es.length d).foldlM takeP es = some (es ++ [normPg d]) := by
      unfold pageLs
      rw [List.foldlM_cons, h1]
      show (d.lanes.flatMap laneLs).foldlM takeP (es ++ [⟨[], d.t, d.f, d.l⟩]) = _
      rw [fold_lanes es d.t d.f d.l d.lanes [] o4]
      rfl
    rw [h2]
    have ih := fold_pages ds (es ++ [normPg d]) (fun d' hd => h d' (List.mem_cons_of_mem _ hd)) (by rw [List.length_append, List.length_singleton]; omega)
    rw [List.length_append, List.length_singleton] at ih
    show (linesF (es.length + 1) ds).foldlM takeP (es ++ [normPg d]) = _
    rw [ih]
    simp
theorem no10_itoa (v : Int) : (10 : UInt8) ∉ Lib.itoa v := fun h => by
  unfold Lib.itoa at h
  split at h
  · rcases List.mem_cons.1 h with h | h
    · exact absurd h (by decide)
    · have := dec_byte h
      have e : (10 : UInt8).toNat = 10 := rfl
      omega
  · have := dec_byte h
    have e : (10 : UInt8).toNat = 10 := rfl
    omega
theorem no10_line {wd : List UInt8} (hw : (10 : UInt8) ∉ wd) (ns : List Int) : (10 : UInt8) ∉ lineL wd ns := by
  unfold lineL
  intro h
  rcases List.mem_append.1 h with h | h
  · exact hw h
  · obtain ⟨n, _, h⟩ := List.mem_flatMap.1 h
    unfold numL at h
    rcases List.mem_cons.1 h with h | h
    · exact absurd h (by decide)
    · exact no10_itoa n h
theorem no10_putL (p : Put) : (10 : UInt8) ∉ putL p := by
  unfold putL
  repeat' split
  all_goals exact no10_line (by decide) _
theorem lines_ok : ∀ (ds : List PgD) (i : Nat), dsOk ds → i + ds.length ≤ 4000 → ∀ a, a ∈ linesF i ds → (10 : UInt8) ∉ a ∧ a.length ≤ 201
  | [], _, _, _, a, h => by cases h
  | d :: ds, i, ho, hi, a, h => by
    rw [List.length_cons] at hi
    unfold linesF at h
    obtain ⟨o1, o2, o3, o4⟩ := ho d List.mem_cons_self
    rcases List.mem_append.1 h with h | h
    · unfold pageLs at h
      rcases List.mem_cons.1 h with rfl | h
      · refine ⟨no10_line (by decide) _, ?_⟩
        have := lineL_short (wd := wPage) (ns := [(i : Int), d.t, d.f, d.l]) (fun n hm => by
          simp only [List.mem_cons, List.not_mem_nil, or_false] at hm
          rcases hm with rfl | rfl | rfl | rfl
          · unfold I64; omega
          · exact o1
          · exact o2
          · exact o3)
        simp at this
        omega
      · obtain ⟨e, he, h⟩ := List.mem_flatMap.1 h
        obtain ⟨q1, q2⟩ := o4 e he
        unfold laneLs at h
        rcases List.mem_cons.1 h with rfl | h
        · refine ⟨no10_line (by decide) _, ?_⟩
          have := lineL_short (wd := wLane) (ns := [e.x]) (by simpa using q1)
          simp at this
          omega
        · obtain ⟨p, hp, rfl⟩ := List.mem_map.1 h
          exact ⟨no10_putL p, by have := putL_short p (q2 p hp); omega⟩
    · exact lines_ok ds (i + 1) (fun d' hd => ho d' (List.mem_cons_of_mem _ hd)) (by omega) a h
theorem text_norm : ∀ (ds : List PgD) (i : Nat), textF i (ds.map normPg) = textF i ds
  | [], _ => rfl
  | d :: ds, i => by
    rw [List.map_cons]
    unfold textF
    rw [text_norm ds]
    congr 1
    unfold pageTx normPg
    simp only
    congr 1
    rw [List.flatMap_map]
    congr 1
    funext e
    unfold laneTx normLn
    simp only
    congr 1
    rw [List.flatMap_map]
    congr 1
    funext p
    unfold putN
    rw [norm_putL]
end Go.Proofs.YteadhacoglcbfaaDoor
namespace Go.Proofs.YteadhacoglcbfaaDoor

open Go.ChangeShapes Go.WideShapes Go.ChangeAt Go.RowKit Go.Shelf

/-- The program's thing of a text, and the document's, at once. -/
theorem both_put (s : List UInt8) (hs : s.length ≤ 10000) : ∃ (P : Put) (b : Bool), refGot s = gotV P b ∧ ∀ (w : World), Env w → Calls Tryd.prog 10 #[sv s] w fun e w' => e = .returned (.tuple #[.agg #[.int .i64 P.k, .int .i64 P.n, .int .i64 P.l, .int .i64 P.y, .int .i64 P.h], .bool b]) ∧ Kp w w' := by
  have hr := refGot_put s
  cases h : putP s with
  | some p =>
    rw [h] at hr
    refine ⟨p, true, hr, fun w he => (galleyPut_any s hs w he).mono ?_⟩
    rintro e w' ⟨k, ⟨p', hp, rfl⟩ | ⟨hp, _⟩⟩
    · rw [h] at hp; cases hp
      exact ⟨rfl, k⟩
    · rw [h] at hp; cases hp
  | none =>
    rw [h] at hr
    refine ⟨⟨0, 0, 0, 0, 0⟩, false, hr, fun w he => (galleyPut_any s hs w he).mono ?_⟩
    rintro e w' ⟨k, ⟨p', hp, _⟩ | ⟨hp, rfl⟩⟩
    · rw [h] at hp; cases hp
    · exact ⟨rfl, k⟩
theorem back_put (p : Put) (hp : p.ok) (w : World) (he : Env w) : Calls Tryd.prog 10 #[sv (putL p)] w fun e w' => e = .returned (.tuple #[.agg #[.int .i64 p.norm.k, .int .i64 p.norm.n, .int .i64 p.norm.l, .int .i64 p.norm.y, .int .i64 p.norm.h], .bool true]) ∧ Kp w w' := by
  refine (galleyPut_any (putL p) (by have := putL_short p hp; omega) w he).mono ?_
  rintro e w' ⟨k, ⟨p', h, rfl⟩ | ⟨h, _⟩⟩
  · rw [putP_putL hp] at h; cases h
    exact ⟨rfl, k⟩
  · rw [putP_putL hp] at h; cases h
set_option maxRecDepth 100000 in
set_option maxHeartbeats 8000000 in
theorem galleyPuts_main (s : List UInt8) (p0 p1 p2 p3 p4 : Int) (w : World) (heN : EnvN w) (hs : s.length ≤ 300) (hp : Put.ok ⟨p0, p1, p2, p3, p4⟩) :
    Calls Tryd.prog 4 #[sv s, .agg #[.int .i64 p0, .int .i64 p1, .int .i64 p2, .int .i64 p3, .int .i64 p4]] w fun e w' => e = .returned (.bool true) ∧ Kp w w' := by
  have he := heN.env
  have HE := Lib.hid he
  have HEN := Lib.hid heN
  have eP := @eqPt
  obtain ⟨⟨a0, a1, a2, a3, a4⟩, b, hg, hc⟩ := both_put s (by omega)
  have HC := Lib.hid hc
  have CR : Hid (∀ w', Calls Tryd.prog 11 #[sv s] w' fun e w'' => e = .returned (.agg #[.int .i64 a0, .int .i64 a1, .int .i64 a2, .int .i64 a3, .int .i64 a4, .bool b]) ∧ Kp w' w'') := Lib.hid fun w' => by
    have hh := refPut51_any s (by omega) w'
    rw [hg] at hh; exact hh
  have CS : Hid (∀ w', EnvN w' → Calls Tryd.prog 12 #[.agg #[.int .i64 p0, .int .i64 p1, .int .i64 p2, .int .i64 p3, .int .i64 p4]] w' fun e w'' => e = .returned (sv (putL ⟨p0, p1, p2, p3, p4⟩)) ∧ Kp w' w'') := Lib.hid fun w' he => put_any ⟨p0, p1, p2, p3, p4⟩ hp w' he
  have CB : Hid (∀ w', Env w' → Calls Tryd.prog 10 #[sv (putL ⟨p0, p1, p2, p3, p4⟩)] w' fun e w'' => e = .returned (.tuple #[.agg #[.int .i64 (Put.norm ⟨p0, p1, p2, p3, p4⟩).k, .int .i64 (Put.norm ⟨p0, p1, p2, p3, p4⟩).n, .int .i64 (Put.norm ⟨p0, p1, p2, p3, p4⟩).l, .int .i64 (Put.norm ⟨p0, p1, p2, p3, p4⟩).y, .int .i64 (Put.norm ⟨p0, p1, p2, p3, p4⟩).h], .bool true]) ∧ Kp w' w'') := Lib.hid fun w' he => back_put ⟨p0, p1, p2, p3, p4⟩ hp w' he
  have CN : Hid (∀ w', EnvN w' → Calls Tryd.prog 12 #[.agg #[.int .i64 (Put.norm ⟨p0, p1, p2, p3, p4⟩).k, .int .i64 (Put.norm ⟨p0, p1, p2, p3, p4⟩).n, .int .i64 (Put.norm ⟨p0, p1, p2, p3, p4⟩).l, .int .i64 (Put.norm ⟨p0, p1, p2, p3, p4⟩).y, .int .i64 (Put.norm ⟨p0, p1, p2, p3, p4⟩).h]] w' fun e w'' => e = .returned (sv (putL ⟨p0, p1, p2, p3, p4⟩)) ∧ Kp w' w'') := Lib.hid fun w' he => by
    have hh := put_any (Put.norm ⟨p0, p1, p2, p3, p4⟩) (norm_ok hp) w' he
    rw [norm_putL] at hh; exact hh
  obtain ⟨⟨r0, r1, r2, r3, r4⟩, hr⟩ : ∃ r, Put.norm ⟨p0, p1, p2, p3, p4⟩ = r := ⟨_, rfl⟩
  rw [hr] at CB CN
  obtain ⟨T, hT⟩ : ∃ T, putL ⟨p0, p1, p2, p3, p4⟩ = T := ⟨_, rfl⟩
  rw [hT] at CS CB CN
  have CAW : Hid (∀ w', Kp w w' → Calls Tryd.prog 6 #[] w' fun e w'' => e = .returned (.bool true) ∧ Kp w' w'') := Lib.hid fun w' k => awake51_any w' (he.kp k)
  have j1 : decide ((300 : Int) < (s.length : Int)) = false := decide_eq_false (by omega)
  clear he heN hg hc hp hr hT
  go_enter Tryd.func4, Tryd.ntmps4
  go_wp2_with fail
  refine (HC.out _ (HE.out.kp (by (repeat (first | with_reducible assumption | with_reducible exact Kp.refl _ | with_reducible refine Kp.drew ?_ | with_reducible refine Kp.drewN ?_ _ | with_reducible refine Kp.alloc ?_ _ | ((with_reducible refine Kp.setCell ?_ ?_ _); rotate_left; (focus (first | omega | (simp; done) | (simp; omega)))) | with_reducible refine Kp.trans ?_ (by assumption)))))).mono ?_
  rintro e w1 ⟨rfl, k1⟩
  have bp1 : Blk w1 w.heap.size [.int .i64 p0, .int .i64 p1, .int .i64 p2, .int .i64 p3, .int .i64 p4] 33 := Blk.kp (by (repeat (first | with_reducible assumption | ((with_reducible refine Blk.newL ?_ ?_); (focus (first | (simp; done) | omega)); rfl) | with_reducible refine Blk.drew ?_ | with_reducible refine Blk.drewN ?_ _ | with_reducible refine Blk.alloc ?_ _ | ((with_reducible refine Blk.other ?_ ?_ _); rotate_left; (focus (first | with_reducible assumption | omega | (simp; done) | (simp; omega))))))) k1
  have kw1 : Kp w w1 := ((by (repeat (first | with_reducible assumption | with_reducible exact Kp.refl _ | with_reducible refine Kp.drew ?_ | with_reducible refine Kp.drewN ?_ _ | with_reducible refine Kp.alloc ?_ _ | ((with_reducible refine Kp.setCell ?_ ?_ _); rotate_left; (focus (first | omega | (simp; done) | (simp; omega)))) | with_reducible refine Kp.trans ?_ (by assumption)))) : Kp w _).trans k1
  clear k1
  go_wp2_with fail
  refine (CR.out _).mono ?_
  rintro e w2 ⟨rfl, k2⟩
  have bp2 := Blk.kp (Blk.alloc bp1 (.cells #[.int .i64 a0, .int .i64 a1, .int .i64 a2, .int .i64 a3, .int .i64 a4] 33)) k2
  have bq2 : Blk w2 w1.heap.size [.int .i64 a0, .int .i64 a1, .int .i64 a2, .int .i64 a3, .int .i64 a4] 33 := Blk.kp (by (repeat (first | with_reducible assumption | ((with_reducible refine Blk.newL ?_ ?_); (focus (first | (simp; done) | omega)); rfl) | with_reducible refine Blk.drew ?_ | with_reducible refine Blk.drewN ?_ _ | with_reducible refine Blk.alloc ?_ _ | ((with_reducible refine Blk.other ?_ ?_ _); rotate_left; (focus (first | with_reducible assumption | omega | (simp; done) | (simp; omega))))))) k2
  have kw2 : Kp w w2 := (kw1.alloc _).trans k2
  have bpx := Blk.alloc bp2 (.cells #[.int .i64 a0, .int .i64 a1, .int .i64 a2, .int .i64 a3, .int .i64 a4, .bool b] 37)
  have p0' := bpx.cell 0 rfl; have p1' := bpx.cell 1 rfl; have p2' := bpx.cell 2 rfl; have p3' := bpx.cell 3 rfl; have p4' := bpx.cell 4 rfl
  clear k2 bp1 bpx
  go_wp2_with fail
  refine (CS.out _ ?env).mono ?_
  case env => exact HEN.out.kp (kw2.alloc _)
  rintro e w3 ⟨rfl, k3⟩
  have bp3 := Blk.kp (Blk.alloc bp2 (.cells #[.int .i64 a0, .int .i64 a1, .int .i64 a2, .int .i64 a3, .int .i64 a4, .bool b] 37)) k3
  have bq3 := Blk.kp (Blk.alloc bq2 (.cells #[.int .i64 a0, .int .i64 a1, .int .i64 a2, .int .i64 a3, .int .i64 a4, .bool b] 37)) k3
  have bx3 : Blk w3 w2.heap.size [.int .i64 a0, .int .i64 a1, .int .i64 a2, .int .i64 a3, .int .i64 a4, .bool b] 37 := Blk.kp (by (repeat (first | with_reducible assumption | ((with_reducible refine Blk.newL ?_ ?_); (focus (first | (simp; done) | omega)); rfl) | with_reducible refine Blk.drew ?_ | with_reducible refine Blk.drewN ?_ _ | with_reducible refine Blk.alloc ?_ _ | ((with_reducible refine Blk.other ?_ ?_ _); rotate_left; (focus (first | with_reducible assumption | omega | (simp; done) | (simp; omega))))))) k3
  have kw3 : Kp w w3 := (kw2.alloc _).trans k3
  clear k3 bp2 bq2 p0' p1' p2' p3' p4'
  go_wp2_with fail
  refine (CB.out _ (HE.out.kp kw3)).mono ?_
  rintro e w4 ⟨rfl, k4⟩
  have bp4 := Blk.alloc (Blk.kp bp3 k4) (.cells #[.int .i64 r0, .int .i64 r1, .int .i64 r2, .int .i64 r3, .int .i64 r4] 33)
  have bq4 := Blk.alloc (Blk.kp bq3 k4) (.cells #[.int .i64 r0, .int .i64 r1, .int .i64 r2, .int .i64 r3, .int .i64 r4] 33)
  have bx4 := Blk.alloc (Blk.kp bx3 k4) (.cells #[.int .i64 r0, .int .i64 r1, .int .i64 r2, .int .i64 r3, .int .i64 r4] 33)
  have br4 : Blk (w4.alloc (.cells #[.int .i64 r0, .int .i64 r1, .int .i64 r2, .int .i64 r3, .int .i64 r4] 33)) w4.heap.size [.int .i64 r0, .int .i64 r1, .int .i64 r2, .int .i64 r3, .int .i64 r4] 33 := (by (repeat (first | with_reducible assumption | ((with_reducible refine Blk.newL ?_ ?_); (focus (first | (simp; done) | omega)); rfl) | with_reducible refine Blk.drew ?_ | with_reducible refine Blk.drewN ?_ _ | with_reducible refine Blk.alloc ?_ _ | ((with_reducible refine Blk.other ?_ ?_ _); rotate_left; (focus (first | with_reducible assumption | omega | (simp; done) | (simp; omega)))))))
  have kw4 : Kp w (w4.alloc (.cells #[.int .i64 r0, .int .i64 r1, .int .i64 r2, .int .i64 r3, .int .i64 r4] 33)) := (kw3.trans k4).alloc _
  clear k4 bp3 bq3 bx3
  go_wp2_with fail
  generalize w4.alloc (.cells #[.int .i64 r0, .int .i64 r1, .int .i64 r2, .int .i64 r3, .int .i64 r4] 33) = w5 at bp4 bq4 bx4 br4 kw4 ⊢
  have p0' := bp4.cell 0 rfl; have p1' := bp4.cell 1 rfl; have p2' := bp4.cell 2 rfl; have p3' := bp4.cell 3 rfl; have p4' := bp4.cell 4 rfl
  have q0' := bq4.cell 0 rfl; have q1' := bq4.cell 1 rfl; have q2' := bq4.cell 2 rfl; have q3' := bq4.cell 3 rfl; have q4' := bq4.cell 4 rfl
  have x0' := bx4.cell 0 rfl; have x1' := bx4.cell 1 rfl; have x2' := bx4.cell 2 rfl; have x3' := bx4.cell 3 rfl; have x4' := bx4.cell 4 rfl; have x5' := bx4.cell 5 rfl
  have r0' := br4.cell 0 rfl; have r1' := br4.cell 1 rfl; have r2' := br4.cell 2 rfl; have r3' := br4.cell 3 rfl; have r4' := br4.cell 4 rfl
  have lp := bp4.lt
  have lq := bq4.lt
  have lx := bx4.lt
  have lr := br4.lt
  clear bp4 bq4 bx4 br4 kw1 kw2 kw3
  (refine wp_region_held_drew (S := (fun w' => (∀ b o, b < w5.heap.size → w'.cell? ⟨b, o, none⟩ = w5.cell? ⟨b, o, none⟩) ∧ Kp w5 w')) (by kernel_rfl) ?_ (fun hHd => ?_); (focus ((try dsimp only); (first | with_reducible assumption | with_reducible exact held_start _ | with_reducible exact held_next (by assumption) (by assumption) | with_reducible exact held_alloc (by assumption) _ | with_reducible exact held_drew (by assumption) | ((with_reducible refine held_kp ?_); (repeat (first | with_reducible assumption | with_reducible exact Kp.refl _ | with_reducible refine Kp.drew ?_ | with_reducible refine Kp.drewN ?_ _ | with_reducible refine Kp.alloc ?_ _ | ((with_reducible refine Kp.setCell ?_ ?_ _); rotate_left; (focus (first | omega | (simp; done) | (simp; omega)))) | with_reducible refine Kp.trans ?_ (by assumption))))))))
  (refine takeH (i := 0) (oi := ?o310) (v := ?v310) ?h310 (by kernel_rfl) ?q310 (Or.inl ⟨?w310, ?y310⟩) (by assumption) ?r310; (case h310 => ((simp only [g1, g3]); rfl)); (case q310 => exact fun _ _ _ h => h); (case w310 => rfl); (case y310 => (intro w' hSw; (try dsimp only at hSw); go_simp; (try with_reducible rfl))); (try simp only [Act.put, s1, s2, s3]))
  (refine takeH (i := 1) (oi := ?o311) (v := ?v311) ?h311 (by kernel_rfl) ?q311 (Or.inl ⟨?w311, ?y311⟩) (by assumption) ?r311; (case h311 => ((simp only [g1, g2, g3]); rfl)); (case q311 => exact fun _ _ _ h => h); (case w311 => rfl); (case y311 => (intro w' hSw; (try dsimp only at hSw); go_simp; (try with_reducible rfl))); (try simp only [Act.put, s1, s2, s3]))
  (refine takeH (i := 2) (oi := ?o312) (v := ?v312) ?h312 (by kernel_rfl) ?q312 (Or.inl ⟨?w312, ?y312⟩) (by assumption) ?r312; (case h312 => ((simp only [g1, g2, g3]); rfl)); (case q312 => exact fun _ _ _ h => h); (case w312 => rfl); (case y312 => (intro w' hSw; (try dsimp only at hSw); go_simp; (try with_reducible rfl))); (try simp only [Act.put, s1, s2, s3]))
  (refine takeH (i := 3) (oi := ?o313) (v := ?v313) ?h313 (by kernel_rfl) ?q313 (Or.inl ⟨?w313, ?y313⟩) (by assumption) ?r313; (case h313 => ((simp only [g1, g2, g3]); rfl)); (case q313 => exact fun _ _ _ h => h); (case w313 => rfl); (case y313 => (intro w' hSw; (try dsimp only at hSw); go_simp; (try with_reducible rfl))); (try simp only [Act.put, s1, s2, s3]))
  (refine takeH (i := 4) (oi := ?o314) (v := ?v314) ?h314 (by kernel_rfl) ?q314 (Or.inl ⟨?w314, ?y314⟩) (by assumption) ?r314; (case h314 => ((simp only [g1, g2, g3]); rfl)); (case q314 => exact fun _ _ _ h => h); (case w314 => rfl); (case y314 => (intro w' hSw; (try dsimp only at hSw); go_simp; (try with_reducible rfl))); (try simp only [Act.put, s1, s2, s3]))
  (refine takeH (i := 5) (oi := ?o315) (v := ?v315) ?h315 (by kernel_rfl) ?q315 (Or.inl ⟨?w315, ?y315⟩) (by assumption) ?r315; (case h315 => ((simp only [g1, g2, g3]); rfl)); (case q315 => exact fun _ _ _ h => h); (case w315 => rfl); (case y315 => (intro w' hSw; (try dsimp only at hSw); go_simp; (try with_reducible rfl))); (try simp only [Act.put, s1, s2, s3]))
  (refine takeH (i := 6) (oi := ?o316) (v := ?v316) ?h316 (by kernel_rfl) ?q316 (Or.inl ⟨?w316, ?y316⟩) (by assumption) ?r316; (case h316 => ((simp only [g1, g2, g3]); rfl)); (case q316 => exact fun _ _ _ h => h); (case w316 => rfl); (case y316 => (intro w' hSw; (try dsimp only at hSw); go_simp; (try with_reducible rfl))); (try simp only [Act.put, s1, s2, s3]))
  (refine takeH (i := 7) (oi := ?o317) (v := ?v317) ?h317 (by kernel_rfl) ?q317 (Or.inl ⟨?w317, ?y317⟩) (by assumption) ?r317; (case h317 => ((simp only [g1, g2, g3]); rfl)); (case q317 => exact fun _ _ _ h => h); (case w317 => rfl); (case y317 => (intro w' hSw; (try dsimp only at hSw); go_simp; (try with_reducible rfl))); (try simp only [Act.put, s1, s2, s3]))
  (refine takeH (i := 8) (oi := ?o318) (v := ?v318) ?h318 (by kernel_rfl) ?q318 (Or.inl ⟨?w318, ?y318⟩) (by assumption) ?r318; (case h318 => ((simp only [g1, g2, g3]); rfl)); (case q318 => exact fun _ _ _ h => h); (case w318 => rfl); (case y318 => (intro w' hSw; (try dsimp only at hSw); go_simp; (try with_reducible rfl))); (try simp only [Act.put, s1, s2, s3]))
  (refine takeH (i := 9) (oi := ?o319) (v := ?v319) ?h319 (by kernel_rfl) ?q319 (Or.inl ⟨?w319, ?y319⟩) (by assumption) ?r319; (case h319 => ((simp only [g1, g2, g3]); rfl)); (case q319 => exact fun _ _ _ h => h); (case w319 => rfl); (case y319 => (intro w' hSw; (try dsimp only at hSw); go_simp; (try with_reducible rfl))); (try simp only [Act.put, s1, s2, s3]))
  (refine takeH (i := 10) (oi := ?o320) (v := ?v320) ?h320 (by kernel_rfl) ?q320 (Or.inl ⟨?w320, ?y320⟩) (by assumption) ?r320; (case h320 => ((simp only [g1, g2, g3]); rfl)); (case q320 => exact fun _ _ _ h => h); (case w320 => rfl); (case y320 => (intro w' hSw; (try dsimp only at hSw); go_simp; (try with_reducible rfl))); (try simp only [Act.put, s1, s2, s3]))
  (refine takeH (i := 11) (oi := ?o321) (v := ?v321) ?h321 (by kernel_rfl) ?q321 (Or.inl ⟨?w321, ?y321⟩) (by assumption) ?r321; (case h321 => ((simp only [g1, g2, g3]); rfl)); (case q321 => exact fun _ _ _ h => h); (case w321 => rfl); (case y321 => (intro w' hSw; (try dsimp only at hSw); go_simp; (try with_reducible rfl))); (try simp only [Act.put, s1, s2, s3]))
  (refine takeH (i := 12) (oi := ?o322) (v := ?v322) ?h322 (by kernel_rfl) ?q322 (Or.inl ⟨?w322, ?y322⟩) (by assumption) ?r322; (case h322 => ((simp only [g1, g2, g3]); rfl)); (case q322 => exact fun _ _ _ h => h); (case w322 => rfl); (case y322 => (intro w' hSw; (try dsimp only at hSw); go_simp; (try with_reducible rfl))); (try simp only [Act.put, s1, s2, s3]))
  (refine takeH (i := 13) (oi := ?o323) (v := ?v323) ?h323 (by kernel_rfl) ?q323 (Or.inl ⟨?w323, ?y323⟩) (by assumption) ?r323; (case h323 => ((simp only [g1, g2, g3]); rfl)); (case q323 => exact fun _ _ _ h => h); (case w323 => rfl); (case y323 => (intro w' hSw; (try dsimp only at hSw); go_simp; (try with_reducible rfl))); (try simp only [Act.put, s1, s2, s3]))
  (refine takeH (i := 14) (oi := ?o324) (v := ?v324) ?h324 (by kernel_rfl) ?q324 (Or.inl ⟨?w324, ?y324⟩) (by assumption) ?r324; (case h324 => ((simp only [g1, g2, g3]); rfl)); (case q324 => exact fun _ _ _ h => h); (case w324 => rfl); (case y324 => (intro w' hSw; (try dsimp only at hSw); go_simp; (try with_reducible rfl))); (try simp only [Act.put, s1, s2, s3]))
  (refine takeH (i := 16) (oi := ?o325) (v := ?v325) ?h325 (by kernel_rfl) ?q325 (Or.inl ⟨?w325, ?y325⟩) (by assumption) ?r325; (case h325 => ((simp only [g1, g2, g3]); rfl)); (case q325 => exact fun _ _ _ h => h); (case w325 => rfl); (case y325 => (intro w' hSw; (try dsimp only at hSw); go_simp; (try with_reducible rfl))); (try simp only [Act.put, s1, s2, s3]))
  (refine wpAnyH_ready (rs := [15]) (by kernel_rfl) (by simp) ?_; refine AllReadyH.cons (o := ?o326) ?h326 (fun K hK => ?s326) AllReadyH.nil; (case h326 => (first | ((simp only [g1, g2, g3]); rfl) | rfl)); (go_simp; go_at_call 12; refine (CN.out _ (HEN.out.kp (kw4.trans hHd.2))).mono ?_; rintro e w6 ⟨rfl, kk6⟩; (try dsimp only)); refine hK.out _ _ ?_ (fun hHd => ?_); (focus ((try dsimp only); exact held_kp (hHd.2.trans kk6))); clear hK K; (try simp only [Act.put]))
  (refine wpAnyH_ready (rs := [17]) (by kernel_rfl) (by simp) ?_; refine AllReadyH.cons (o := ?o328) ?h328 (fun K hK => ?s328) AllReadyH.nil; (case h328 => (first | ((simp only [g1, g2, g3]); rfl) | rfl)); (go_simp; go_at_call 12; refine (CS.out _ (HEN.out.kp (kw4.trans hHd.2))).mono ?_; rintro e w7 ⟨rfl, kk7⟩; (try dsimp only)); refine hK.out _ _ ?_ (fun hHd => ?_); (focus ((try dsimp only); exact held_kp (hHd.2.trans kk7))); clear hK K; (try simp only [Act.put]))
  (refine takeH (i := 18) (oi := ?o330) (v := ?v330) ?h330 (by kernel_rfl) ?q330 (Or.inl ⟨?w330, ?y330⟩) (by assumption) ?r330; (case h330 => ((simp only [g1, g2, g3]); rfl)); (case q330 => exact fun _ _ _ h => h); (case w330 => rfl); (case y330 => (intro w' hSw; (try dsimp only at hSw); go_simp; (try with_reducible rfl))); (try simp only [Act.put, s1, s2, s3]))
  (refine takeH (i := 19) (oi := ?o331) (v := ?v331) ?h331 (by kernel_rfl) ?q331 (Or.inl ⟨?w331, ?y331⟩) (by assumption) ?r331; (case h331 => ((simp only [g1, g2, g3]); rfl)); (case q331 => exact fun _ _ _ h => h); (case w331 => rfl); (case y331 => (intro w' hSw; (try dsimp only at hSw); go_simp; (try with_reducible rfl))); (try simp only [Act.put, s1, s2, s3]))
  (refine takeH (i := 20) (oi := ?o332) (v := ?v332) ?h332 (by kernel_rfl) ?q332 (Or.inl ⟨?w332, ?y332⟩) (by assumption) ?r332; (case h332 => ((simp only [g1, g2, g3]); rfl)); (case q332 => exact fun _ _ _ h => h); (case w332 => rfl); (case y332 => (intro w' hSw; (try dsimp only at hSw); go_simp; (try with_reducible rfl))); (try simp only [Act.put, s1, s2, s3]))
  (refine wpAnyH_ready (rs := [21]) (by kernel_rfl) (by simp) ?_; refine AllReadyH.cons (o := ?o333) ?h333 (fun K hK => ?s333) AllReadyH.nil; (case h333 => (first | ((simp only [g1, g2, g3]); rfl) | rfl)); (go_simp; go_at_call 6; refine (CAW.out _ (kw4.trans hHd.2)).mono ?_; rintro e w8 ⟨rfl, kk8⟩; (try dsimp only)); refine hK.out _ _ ?_ (fun hHd => ?_); (focus ((try dsimp only); exact held_kp (hHd.2.trans kk8))); clear hK K; (try simp only [Act.put]))
  (refine takeH (i := 22) (oi := ?o335) (v := ?v335) ?h335 (by kernel_rfl) ?q335 (Or.inl ⟨?w335, ?y335⟩) (by assumption) ?r335; (case h335 => ((simp only [g1, g2, g3]); rfl)); (case q335 => exact fun _ _ _ h => h); (case w335 => rfl); (case y335 => (intro w' hSw; (try dsimp only at hSw); go_simp; (try with_reducible rfl))); (try simp only [Act.put, s1, s2, s3]))
  (refine takeH (i := 23) (oi := ?o336) (v := ?v336) ?h336 (by kernel_rfl) ?q336 (Or.inl ⟨?w336, ?y336⟩) (by assumption) ?r336; (case h336 => ((simp only [g1, g2, g3]); rfl)); (case q336 => exact fun _ _ _ h => h); (case w336 => rfl); (case y336 => (intro w' hSw; (try dsimp only at hSw); go_simp; (try with_reducible rfl))); (try simp only [Act.put, s1, s2, s3]))
  refine wpAnyH_done (by kernel_rfl) ?_ _
  go_wp2_with fail
  (try go_ret)
  exact ⟨by first | rfl | simp, kw4.trans hHd.2⟩
set_option maxHeartbeats 1000000 in
theorem galleyPuts_far (s : List UInt8) (p0 p1 p2 p3 p4 : Int) (w : World) (he : Env w) (h : 300 < s.length) (h2 : s.length ≤ 9223372036854775807) :
    Calls Tryd.prog 4 #[sv s, .agg #[.int .i64 p0, .int .i64 p1, .int .i64 p2, .int .i64 p3, .int .i64 p4]] w fun e w' => e = .returned (.bool true) ∧ Kp w w' := by
  have HE := Lib.hid he
  have j1 : decide ((300 : Int) < (s.length : Int)) = true := decide_eq_true (by omega)
  have j2 : decide (300 < s.length) = true := decide_eq_true (by omega)
  clear he
  go_enter Tryd.func4, Tryd.ntmps4
  go_wp2_with fail
  refine (awake51_any _ (HE.out.kp (by (repeat (first | with_reducible assumption | with_reducible exact Kp.refl _ | with_reducible refine Kp.drew ?_ | with_reducible refine Kp.drewN ?_ _ | with_reducible refine Kp.alloc ?_ _ | ((with_reducible refine Kp.setCell ?_ ?_ _); rotate_left; (focus (first | omega | (simp; done) | (simp; omega)))) | with_reducible refine Kp.trans ?_ (by assumption)))))).mono ?_
  rintro e w1 ⟨rfl, k1⟩
  go_wp2_with fail
  (try go_ret)
  exact ⟨rfl, ((by (repeat (first | with_reducible assumption | with_reducible exact Kp.refl _ | with_reducible refine Kp.drew ?_ | with_reducible refine Kp.drewN ?_ _ | with_reducible refine Kp.alloc ?_ _ | ((with_reducible refine Kp.setCell ?_ ?_ _); rotate_left; (focus (first | omega | (simp; done) | (simp; omega)))) | with_reducible refine Kp.trans ?_ (by assumption)))) : Kp w _).trans k1⟩
structure Pt5 where
  k : Int
  n : Int
  l : Int
  y : Int
  h : Int
/-- Its cells. -/
def Pt5.cells (x : Pt5) : List Value := [.int .i64 x.k, .int .i64 x.n, .int .i64 x.l, .int .i64 x.y, .int .i64 x.h]
/-- The value. -/
def Pt5.v (x : Pt5) : Value := .agg #[.int .i64 x.k, .int .i64 x.n, .int .i64 x.l, .int .i64 x.y, .int .i64 x.h]
def Pt5.ok (x : Pt5) : Prop := I64 x.k ∧ I64 x.n ∧ I64 x.l ∧ I64 x.y ∧ I64 x.h
theorem Pt5.of_cells {cs : List Value} (h : Open.allOk [.int .i64, .int .i64, .int .i64, .int .i64, .int .i64] cs) : ∃ x : Pt5, cs = x.cells ∧ x.ok := by
  obtain _ | ⟨c0, cs⟩ := cs; · exact absurd h id
  obtain _ | ⟨c1, cs⟩ := cs; · exact absurd h.2 id
  obtain _ | ⟨c2, cs⟩ := cs; · exact absurd h.2.2 id
  obtain _ | ⟨c3, cs⟩ := cs; · exact absurd h.2.2.2 id
  obtain _ | ⟨c4, cs⟩ := cs; · exact absurd h.2.2.2.2 id
  obtain _ | ⟨c, cs⟩ := cs; rotate_left; · exact absurd h.2.2.2.2.2 id
  obtain ⟨⟨x0, rfl, w0⟩, ⟨x1, rfl, w1⟩, ⟨x2, rfl, w2⟩, ⟨x3, rfl, w3⟩, ⟨x4, rfl, w4⟩, _⟩ := h
  exact ⟨⟨x0, x1, x2, x3, x4⟩, rfl, ⟨Open.i64_of w0, Open.i64_of w1, Open.i64_of w2, Open.i64_of w3, Open.i64_of w4⟩⟩
theorem Open.flat_pt5 : Open.flatK Tryd.prog 4 33 = some [.int .i64, .int .i64, .int .i64, .int .i64, .int .i64] := by kernel_rfl
set_option maxRecDepth 100000 in
theorem Open.open_pt5 {H : Type} {enc : TypeId × Value → H} {w : World} {base : Nat} {spare : Nat → Bool} {held : Bool} {r : Reach} {b0 : Nat} {v : Value} {d : DataW H} {p : List MemPlace}
    (hv : Value.okWide Tryd.prog w r b0 33 v) (h : DataW.Trod enc Tryd.prog w base spare held 33 v d p) : ∃ x : Pt5, v = x.v ∧ x.ok := by
  obtain ⟨cs, hc, hk⟩ := Open.open_flat 4 Open.flat_pt5 (by rw [Tryd.underlying33]; rfl) hv h
  subst hc
  obtain ⟨x, rfl, hx⟩ := Pt5.of_cells hk
  exact ⟨x, rfl, hx⟩
def Open.zero_pt5 : Value := .agg #[.int .i64 0, .int .i64 0, .int .i64 0, .int .i64 0, .int .i64 0]
theorem galleyPuts_row (a : ByteArray) (x : Pt5) (w : World) (ha : a.size ≤ 140737488351232) (hx : x.ok) (he : EnvN w) :
    Calls Tryd.prog 4 #[.string a, x.v] w fun e w' => e = .returned (.bool true) ∧ Kp w w' := by
  obtain ⟨⟨l⟩⟩ := a
  have hl : l.length ≤ 140737488351232 := ha
  by_cases h : 300 < l.length
  · exact galleyPuts_far l x.k x.n x.l x.y x.h w he.env h (by omega)
  · exact galleyPuts_main l x.k x.n x.l x.y x.h w he (by omega) hx
end Go.Proofs.YteadhacoglcbfaaDoor
namespace Go.Proofs.YteadhacoglcbfaaDoor

open Go.ChangeShapes Go.WideShapes Go.ChangeAt Go.RowKit Go.Shelf

def plainP (p : Put) : Bool := eqPut p.norm p
def plainLn (x : Lane) : Bool := x.s.l.all plainP
def plainPg (p : Page) : Bool := p.s.l.all plainLn
def plainL (l : List Page) : Bool := l.all plainPg
theorem all_snoc {α : Type} {f : α → Bool} {l : List α} {k : Nat} {x : α} (h : l[k]? = some x) : (l.take (k + 1)).all f = ((l.take k).all f && f x) := by
  rw [List.take_add_one, h, List.all_append]; simp
theorem all_no {α : Type} {f : α → Bool} {l : List α} {k : Nat} {x : α} (h : l[k]? = some x) (hx : f x = false) : l.all f = false := by
  cases h2 : l.all f with
  | false => rfl
  | true => rw [List.all_eq_true.1 h2 x (List.mem_of_getElem? h)] at hx; cases hx
set_option maxRecDepth 100000 in
set_option maxHeartbeats 8000000 in
theorem galleyPlain_any (a : Option Addr) (cap : Nat) (l : List Page) (w : World) (he : EnvN w) (hl : SlOk w 4 Page.cells a l.length cap l) (hg : ∀ y, y ∈ l → y.good w) :
    Calls Tryd.prog 16 #[.slice a l.length cap] w fun e w' => e = .returned (.bool (plainL l)) ∧ Kp w w' := by
  have HE := Lib.hid he
  have HL := Lib.hid hl
  have HG := Lib.hid hg
  have hcl := hl.2.1
  have hcm := hl.2.2.1
  unfold maxLen at hcm
  have eP := @eqPt
  clear he hl hg
  go_enter Tryd.func16, Tryd.ntmps16
  go_wp2_with fail
  go_loopw [13] (fun v13 wr => ∃ (k : Nat), k ≤ l.length ∧ v13 = .int .i64 k ∧ (l.take k).all plainPg = true ∧ Kp w wr) (fun v13 _ => l.length - (intOf v13).toNat)
  case atStart => exact ⟨0, Nat.zero_le _, rfl, rfl, (by (repeat (first | with_reducible assumption | with_reducible exact Kp.refl _ | with_reducible refine Kp.drew ?_ | with_reducible refine Kp.drewN ?_ _ | with_reducible refine Kp.alloc ?_ _ | ((with_reducible refine Kp.setCell ?_ ?_ _); rotate_left; (focus (first | omega | (simp; done) | (simp; omega)))) | with_reducible refine Kp.trans ?_ (by assumption))))⟩
  case round =>
    obtain ⟨k, hk, rfl, xa, xk⟩ := hrel
    have XA := Lib.hid xa
    clear xa
    by_cases hlt : k < l.length
    · obtain ⟨x, hx⟩ : ∃ x, l[k]? = some x := ⟨l[k]'hlt, List.getElem?_eq_getElem _⟩
      have hmem := List.mem_of_getElem? hx
      have hgx := HG.out x hmem
      have hnum := hgx.num
      have HSN := Lib.hid (all_snoc (f := plainPg) hx)
      have HNO : Hid (plainPg x = false → plainL l = false) := Lib.hid (all_no hx)
      have tl := HL.out.kp xk
      rcases tl.2.2.2 with e | ⟨ga, oa, rfl, hga, r1⟩
      · rw [e] at hlt; simp at hlt
      obtain ⟨⟨la, ll, lc, ls⟩, pt, pf, pl⟩ := x
      have d0 := r1 k _ hx 0 _ rfl
      have d1 := r1 k _ hx 1 _ rfl
      have d2 := r1 k _ hx 2 _ rfl
      have d3 := r1 k _ hx 3 _ rfl
      simp only [Nat.add_zero] at d0 d1 d2 d3
      have j1 : decide ((k : Int) < (l.length : Int)) = true := decide_eq_true (by omega)
      have HGX := Lib.hid hgx
      have HNUM := Lib.hid hnum
      have hgs := hgx.2.2.2.1
      have hll : ll = ls.length := hgs.1.symm
      have hlc := hgs.2.1
      have hlm := hgs.2.2.1
      simp only at hlc hlm
      unfold maxLen at hlm
      clear tl r1 hx hgx hnum hgs
      subst hll
      go_wp2_with fail
      go_loopw [20] (fun v20 wr' => ∃ (m : Nat), m ≤ ls.length ∧ v20 = .int .i64 m ∧ (ls.take m).all plainLn = true ∧ Kp w wr') (fun v20 _ => ls.length - (intOf v20).toNat)
      case atStart => exact ⟨0, Nat.zero_le _, rfl, rfl, (by (repeat (first | with_reducible assumption | with_reducible exact Kp.refl _ | with_reducible refine Kp.drew ?_ | with_reducible refine Kp.drewN ?_ _ | with_reducible refine Kp.alloc ?_ _ | ((with_reducible refine Kp.setCell ?_ ?_ _); rotate_left; (focus (first | omega | (simp; done) | (simp; omega)))) | with_reducible refine Kp.trans ?_ (by assumption))))⟩
      case round =>
        clear d0 d1 d2 d3 hga
        obtain ⟨m, hm, rfl, ya, yk⟩ := hrel
        have YA := Lib.hid ya
        clear ya
        by_cases hlt2 : m < ls.length
        · obtain ⟨y, hy⟩ : ∃ y, ls[m]? = some y := ⟨ls[m]'hlt2, List.getElem?_eq_getElem _⟩
          have hymem := List.mem_of_getElem? hy
          have HS2 := Lib.hid (all_snoc (f := plainLn) hy)
          have HNO2 : Hid (plainLn y = false → plainL l = false) := Lib.hid fun h => HNO.out (all_no hy h)
          have hsl := HGX.out.2.2.2.1.kp yk
          have hgy := HGX.out.2.2.2.2 y hymem
          have hny := HNUM.out.2.2.2 y hymem
          simp only at hsl
          rcases hsl.2.2.2 with e | ⟨gb, ob, rfl, hgb, r2⟩
          · rw [e] at hlt2; simp at hlt2
          obtain ⟨yx, ⟨qa, ql, qc, qs⟩⟩ := y
          have f0 := r2 m _ hy 0 _ rfl
          have f1 := r2 m _ hy 1 _ rfl
          simp only [Nat.add_zero] at f0 f1
          have j2 : decide ((m : Int) < (ls.length : Int)) = true := decide_eq_true (by omega)
          have HGY := Lib.hid hgy
          have HNY := Lib.hid hny
          have hql : ql = qs.length := hgy.2.1.1.symm
          have hqc := hgy.2.1.2.1
          have hqm := hgy.2.1.2.2.1
          simp only at hqc hqm
          unfold maxLen at hqm
          clear hsl r2 hy hgy hny
          subst hql
          go_wp2_with fail
          go_loopw [27] (fun v27 wr' => ∃ (q : Nat), q ≤ qs.length ∧ v27 = .int .i64 q ∧ (qs.take q).all plainP = true ∧ Kp w wr') (fun v27 _ => qs.length - (intOf v27).toNat)
          case atStart => exact ⟨0, Nat.zero_le _, rfl, rfl, (by (repeat (first | with_reducible assumption | with_reducible exact Kp.refl _ | with_reducible refine Kp.drew ?_ | with_reducible refine Kp.drewN ?_ _ | with_reducible refine Kp.alloc ?_ _ | ((with_reducible refine Kp.setCell ?_ ?_ _); rotate_left; (focus (first | omega | (simp; done) | (simp; omega)))) | with_reducible refine Kp.trans ?_ (by assumption))))⟩
          case round =>
            clear f0 f1 hgb
            obtain ⟨q, hq, rfl, za, zk⟩ := hrel
            have ZA := Lib.hid za
            clear za
            by_cases hlt3 : q < qs.length
            · obtain ⟨z, hz⟩ : ∃ z, qs[q]? = some z := ⟨qs[q]'hlt3, List.getElem?_eq_getElem _⟩
              have hzmem := List.mem_of_getElem? hz
              have HS3 := Lib.hid (all_snoc (f := plainP) hz)
              have HNO3 : Hid (plainP z = false → plainL l = false) := Lib.hid fun h => HNO2.out (all_no hz h)
              have hzl := HGY.out.2.1.kp zk
              simp only at hzl
              have hzok := HNY.out.2 z hzmem
              rcases hzl.2.2.2 with e | ⟨gc, oc, rfl, hgc, r3⟩
              · rw [e] at hlt3; simp at hlt3
              have PP := Lib.hid (put_any z hzok)
              have PB := Lib.hid (back_put z hzok)
              obtain ⟨B, hB⟩ : ∃ B, plainP z = B := ⟨_, rfl⟩
              have HB := Lib.hid hB
              rw [hB] at HS3 HNO3
              obtain ⟨U, hU⟩ : ∃ U, putL z = U := ⟨_, rfl⟩
              rw [hU] at PP PB
              obtain ⟨⟨r0, r1, r2, r3', r4⟩, hn⟩ : ∃ r, z.norm = r := ⟨_, rfl⟩
              rw [hn] at PB
              obtain ⟨z0, z1, z2, z3, z4⟩ := z
              have hBB : (r0 == z0 && (r1 == z1 && (r2 == z2 && (r3' == z3 && r4 == z4)))) = B := by
                rw [← hB]; unfold plainP; rw [hn]; rfl
              have e0 := r3 q _ hz 0 _ rfl
              have e1 := r3 q _ hz 1 _ rfl
              have e2 := r3 q _ hz 2 _ rfl
              have e3 := r3 q _ hz 3 _ rfl
              have e4 := r3 q _ hz 4 _ rfl
              simp only [Nat.add_zero] at e0 e1 e2 e3 e4
              have j3 : decide ((q : Int) < (qs.length : Int)) = true := decide_eq_true (by omega)
              simp only at PP PB
              clear hzl r3 hz hzok hB hU hn
              go_wp2_with fail
              refine (PP.out _ (HE.out.kp (by (repeat (first | with_reducible assumption | with_reducible exact Kp.refl _ | with_reducible refine Kp.drew ?_ | with_reducible refine Kp.drewN ?_ _ | with_reducible refine Kp.alloc ?_ _ | ((with_reducible refine Kp.setCell ?_ ?_ _); rotate_left; (focus (first | omega | (simp; done) | (simp; omega)))) | with_reducible refine Kp.trans ?_ (by assumption)))))).mono ?_
              rintro e w5 ⟨rfl, k5⟩
              have bz5 : Blk w5 wr.heap.size [.int .i64 z0, .int .i64 z1, .int .i64 z2, .int .i64 z3, .int .i64 z4] 33 := Blk.kp (by (repeat (first | with_reducible assumption | ((with_reducible refine Blk.newL ?_ ?_); (focus (first | (simp; done) | omega)); rfl) | with_reducible refine Blk.drew ?_ | with_reducible refine Blk.drewN ?_ _ | with_reducible refine Blk.alloc ?_ _ | ((with_reducible refine Blk.other ?_ ?_ _); rotate_left; (focus (first | with_reducible assumption | omega | (simp; done) | (simp; omega))))))) k5
              have kw5 : Kp w w5 := zk.trans (((by (repeat (first | with_reducible assumption | with_reducible exact Kp.refl _ | with_reducible refine Kp.drew ?_ | with_reducible refine Kp.drewN ?_ _ | with_reducible refine Kp.alloc ?_ _ | ((with_reducible refine Kp.setCell ?_ ?_ _); rotate_left; (focus (first | omega | (simp; done) | (simp; omega)))) | with_reducible refine Kp.trans ?_ (by assumption)))) : Kp wr _).trans k5)
              clear k5
              go_wp2_with fail
              refine (PB.out _ (HE.out.kp kw5).env).mono ?_
              rintro e w6 ⟨rfl, k6⟩
              have bz6 := bz5.kp k6
              have kw6 := kw5.trans k6
              have c0 := bz6.cell 0 rfl; have c1 := bz6.cell 1 rfl; have c2 := bz6.cell 2 rfl; have c3 := bz6.cell 3 rfl; have c4 := bz6.cell 4 rfl
              have bzl := bz6.lt
              clear k6 bz5
              rcases B with _ | _
              · have HNN := Lib.hid (HNO3.out rfl)
                clear HNO3 HS3
                go_wp2_with fail
                (try go_ret)
                exact ⟨by rw [HNN.out]; rfl, (by (repeat (first | with_reducible assumption | with_reducible exact Kp.refl _ | with_reducible refine Kp.drew ?_ | with_reducible refine Kp.drewN ?_ _ | with_reducible refine Kp.alloc ?_ _ | ((with_reducible refine Kp.setCell ?_ ?_ _); rotate_left; (focus (first | omega | (simp; done) | (simp; omega)))) | with_reducible refine Kp.trans ?_ (by assumption))))⟩
              · have HYY : Hid ((qs.take (q + 1)).all plainP = true) := Lib.hid (by rw [HS3.out, ZA.out]; rfl)
                clear HNO3 HS3
                go_wp2_with fail
                go_roundw
                case rel => exact ⟨q + 1, by omega, by go_num, HYY.out, (by (repeat (first | with_reducible assumption | with_reducible exact Kp.refl _ | with_reducible refine Kp.drew ?_ | with_reducible refine Kp.drewN ?_ _ | with_reducible refine Kp.alloc ?_ _ | ((with_reducible refine Kp.setCell ?_ ?_ _); rotate_left; (focus (first | omega | (simp; done) | (simp; omega)))) | with_reducible refine Kp.trans ?_ (by assumption))))⟩
                case measure => simp [intOf]; omega
            · obtain rfl : q = qs.length := by omega
              have j3 : decide ((qs.length : Int) < (qs.length : Int)) = false := decide_eq_false (by omega)
              have HYY : Hid ((ls.take (m + 1)).all plainLn = true) := Lib.hid (by
                rw [HS2.out, YA.out]
                have := ZA.out
                rw [List.take_length] at this
                unfold plainLn
                rw [this]; rfl)
              go_wp2_with fail
              go_roundw
              case rel => exact ⟨m + 1, by omega, by go_num, HYY.out, zk⟩
              case measure => simp [intOf]; omega
        · obtain rfl : m = ls.length := by omega
          have j2 : decide ((ls.length : Int) < (ls.length : Int)) = false := decide_eq_false (by omega)
          have HYY : Hid ((l.take (k + 1)).all plainPg = true) := Lib.hid (by
            rw [HSN.out, XA.out]
            have := YA.out
            rw [List.take_length] at this
            unfold plainPg
            rw [this]; rfl)
          go_wp2_with fail
          go_roundw
          case rel => exact ⟨k + 1, by omega, by go_num, HYY.out, yk⟩
          case measure => simp [intOf]; omega
    · obtain rfl : k = l.length := by omega
      have j1 : decide ((l.length : Int) < (l.length : Int)) = false := decide_eq_false (by omega)
      have HYY : Hid (plainL l = true) := Lib.hid (by
        have := XA.out
        rw [List.take_length] at this
        exact this)
      go_wp2_with fail
      (try go_ret)
      exact ⟨by rw [HYY.out]; rfl, xk⟩
end Go.Proofs.YteadhacoglcbfaaDoor
