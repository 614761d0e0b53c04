/- Part of the proof: Jobs as values: a job that came in, and a job that was read. Whether jobs are the same (tympanref14, 11, 12): equal data are. Whether jobs are the same (tympanref14.Same): equal data are. Has a job a text? (script.Right, anchored, encode.Bare) The numbers of an item's line (script.numbers). A line into a builder (script.line). A geometry's gauges again: the row that the program makes of them, with its types. -/
import Derived.Test.YtaekeogaakogbaaGreatDoorJ14
import Derived.Test.YtaekeogaakogbaaGreatDoorDeep
import Derived.Test.YtaekeogaakogbaaGreatDoorK4
import Derived.Laws.StructEq
import Derived.Test.YtaekeogaakogbaaGreatDoorK11
import Derived.Test.YtaekeogaakogbaaGreatDoorLine
import Derived.Test.YtaekeogaakogbaaGreatDoorJ10
namespace Go.Proofs.YtaekeogaakogbaaGreatDoor

open Go.ChangeShapes Go.WideShapes Go.ChangeAt Go.RowKit Go.Shelf Go.Deep

theorem sl_of_dOk {α : Type} {w : World} {n : Nat} {ks : List DK} {f : α → List Value} {Q : α → Prop} (hof : ∀ cs, dOk w ks cs → ∃ x, cs = f x ∧ Q x) {v : Value} (h : (DK.sl n ks).ok w v) :
    ∃ (a : Option Addr) (len cap : Nat) (l : List α), v = .slice a len cap ∧ SlOk w n f a len cap l ∧ ∀ x, x ∈ l → Q x := by
  unfold DK.ok at h
  obtain ⟨a, len, cap, rfl, h1, h2, h3, h4⟩ := h
  obtain ⟨l, hll, hlp⟩ := list_of (P := fun i (x : α) => Q x ∧ ∀ b off, a = some ⟨b, off, none⟩ → ∀ (j : Nat) (u : Value), (f x)[j]? = some u → w.cell? ⟨b, off + i * n + j, none⟩ = some u) len (fun i hil => by
    obtain ⟨cs, _, hd, hc⟩ := h4 i hil
    obtain ⟨x, rfl, hq⟩ := hof cs hd
    exact ⟨x, hq, hc⟩)
  refine ⟨a, len, cap, l, rfl, ⟨hll, h1, h2, ?_⟩, fun x hx => by
    obtain ⟨i, hi', rfl⟩ := List.getElem_of_mem hx
    exact (hlp i l[i] (List.getElem?_eq_getElem hi')).1⟩
  rcases h3 with z | ⟨b, off, rfl, hb⟩
  · left; exact List.eq_nil_of_length_eq_zero (by omega)
  · right; exact ⟨b, off, rfl, hb, fun i x hx j u hu => (hlp i x hx).2 b off rfl j u hu⟩
theorem dOk_int {w : World} {k : IntKind} {ks : List DK} {cs : List Value} (h : dOk w (.int k :: ks) cs) : ∃ x vs, cs = .int k x :: vs ∧ (Lit.int k x).wf = true ∧ dOk w ks vs := by
  unfold dOk at h
  obtain ⟨v, vs, rfl, h1, h2⟩ := h
  unfold DK.ok at h1
  obtain ⟨x, rfl, hw⟩ := h1
  exact ⟨x, vs, rfl, hw, h2⟩
theorem dOk_bool {w : World} {ks : List DK} {cs : List Value} (h : dOk w (.bool :: ks) cs) : ∃ x vs, cs = .bool x :: vs ∧ dOk w ks vs := by
  unfold dOk at h
  obtain ⟨v, vs, rfl, h1, h2⟩ := h
  unfold DK.ok at h1
  obtain ⟨x, rfl⟩ := h1
  exact ⟨x, vs, rfl, h2⟩
theorem dOk_sl {w : World} {n : Nat} {ks' ks : List DK} {cs : List Value} (h : dOk w (.sl n ks' :: ks) cs) : ∃ v vs, cs = v :: vs ∧ (DK.sl n ks').ok w v ∧ dOk w ks vs := by
  unfold dOk at h; exact h
theorem dOk_nil {w : World} {cs : List Value} (h : dOk w [] cs) : cs = [] := by unfold dOk at h; exact h
theorem dOk_ints {w : World} {ks : List DK} : ∀ (n : Nat) {cs : List Value}, dOk w (List.replicate n (.int .i64) ++ ks) cs → ∃ (g : List Int) (vs : List Value), cs = intsG g ++ vs ∧ g.length = n ∧ (∀ x, x ∈ g → I64 x) ∧ dOk w ks vs
  | 0, cs, h => ⟨[], cs, rfl, rfl, (fun _ h => by cases h), h⟩
  | n + 1, cs, h => by
    rw [List.replicate_succ, List.cons_append] at h
    obtain ⟨x, vs, rfl, hw, h2⟩ := dOk_int h
    obtain ⟨g, us, rfl, hg, hi, h3⟩ := dOk_ints n h2
    refine ⟨x :: g, us, rfl, by rw [List.length_cons, hg], fun y hy => ?_, h3⟩
    rcases List.mem_cons.1 hy with rfl | hy
    · exact Open.i64_of hw
    · exact hi y hy
def Nt.good (w : World) (y : Nt) : Prop := (SlOk w 1 enc1 y.ls.a y.ls.len y.ls.cap y.ls.l ∧ ∀ n, n ∈ y.ls.l → I64 n) ∧ (SlOk w 1 enc1 y.ps.a y.ps.len y.ps.cap y.ps.l ∧ ∀ n, n ∈ y.ps.l → I64 n)
theorem Nt.good.kp {w w' : World} {x : Nt} (h : x.good w) (k : Kp w w') : x.good w' := ⟨⟨h.1.1.kp k, h.1.2⟩, h.2.1.kp k, h.2.2⟩
/-- A job that came in. -/
structure JobI where
  g : List Int
  bal : Bool
  its : SlV Itm
  nts : SlV Nt
  fls : SlV Flt
def Nt.d (y : Nt) : NtD := ⟨y.ls.l, y.ps.l⟩
/-- Its data. -/
def JobI.d (x : JobI) : JobD := ⟨x.g, x.bal, x.its.l, x.nts.l.map Nt.d, x.fls.l⟩
def JobI.L (x : JobI) : List Value := jobL x.g x.bal (.slice x.its.a x.its.len x.its.cap) (.slice x.nts.a x.nts.len x.nts.cap) (.slice x.fls.a x.fls.len x.fls.cap)
structure JobI.good (w : World) (x : JobI) : Prop where
  len : x.g.length = 18
  g : ∀ n, n ∈ x.g → I64 n
  its : SlOk w 7 Itm.cells x.its.a x.its.len x.its.cap x.its.l
  iok : ∀ y, y ∈ x.its.l → y.ok
  nts : SlOk w 2 Nt.cells x.nts.a x.nts.len x.nts.cap x.nts.l
  nok : ∀ y, y ∈ x.nts.l → y.good w
  fls : SlOk w 3 Flt.cells x.fls.a x.fls.len x.fls.cap x.fls.l
  fok : ∀ y, y ∈ x.fls.l → y.ok
theorem JobI.good.kp {w w' : World} {x : JobI} (h : x.good w) (k : Kp w w') : x.good w' :=
  ⟨h.len, h.g, h.its.kp k, h.iok, h.nts.kp k, fun y hy => (h.nok y hy).kp k, h.fls.kp k, h.fok⟩
theorem JobI.L_len {w : World} {x : JobI} (h : x.good w) : x.L.length = 22 := jobL_len h.len
theorem JobI.L_one (x : JobI) : ∀ v ∈ x.L, v.oneCell' = true := jobL_one rfl rfl rfl
def itmK : List DK := [.int .i64, .int .i64, .int .i64, .int .i64, .int .i64, .int .i64, .int .i64]
def fltK : List DK := [.int .i64, .int .i64, .int .i64]
def ntK : List DK := [.sl 1 [.int .i64], .sl 1 [.int .i64]]
def jobK : List DK := List.replicate 18 (.int .i64) ++ [.bool, .sl 7 itmK, .sl 2 ntK, .sl 3 fltK]
theorem Itm.of_cells {w : World} {cs : List Value} (h : dOk w itmK cs) : ∃ x : Itm, cs = x.cells ∧ x.ok := by
  obtain ⟨x0, c1, rfl, w0, h⟩ := dOk_int h
  obtain ⟨x1, c2, rfl, w1, h⟩ := dOk_int h
  obtain ⟨x2, c3, rfl, w2, h⟩ := dOk_int h
  obtain ⟨x3, c4, rfl, w3, h⟩ := dOk_int h
  obtain ⟨x4, c5, rfl, w4, h⟩ := dOk_int h
  obtain ⟨x5, c6, rfl, w5, h⟩ := dOk_int h
  obtain ⟨x6, c7, rfl, w6, h⟩ := dOk_int h
  obtain rfl := dOk_nil h
  exact ⟨⟨x0, x1, x2, x3, x4, x5, x6⟩, rfl, Open.i64_of w0, Open.i64_of w1, Open.i64_of w2, Open.i64_of w3, Open.i64_of w4, Open.i64_of w5, Open.i64_of w6⟩
theorem Flt.of_cells {w : World} {cs : List Value} (h : dOk w fltK cs) : ∃ x : Flt, cs = x.cells ∧ x.ok := by
  obtain ⟨x0, c1, rfl, w0, h⟩ := dOk_int h
  obtain ⟨x1, c2, rfl, w1, h⟩ := dOk_int h
  obtain ⟨x2, c3, rfl, w2, h⟩ := dOk_int h
  obtain rfl := dOk_nil h
  exact ⟨⟨x0, x1, x2⟩, rfl, Open.i64_of w0, Open.i64_of w1, Open.i64_of w2⟩
theorem int1_of_cells {w : World} {cs : List Value} (h : dOk w [.int .i64] cs) : ∃ x : Int, cs = enc1 x ∧ I64 x := by
  obtain ⟨x0, c1, rfl, w0, h⟩ := dOk_int h
  obtain rfl := dOk_nil h
  exact ⟨x0, rfl, Open.i64_of w0⟩
theorem Nt.of_cells {w : World} {cs : List Value} (h : dOk w ntK cs) : ∃ x : Nt, cs = x.cells ∧ x.good w := by
  obtain ⟨v, c1, rfl, h1, h⟩ := dOk_sl h
  obtain ⟨u, c2, rfl, h2, h⟩ := dOk_sl h
  obtain rfl := dOk_nil h
  obtain ⟨a, len, cap, l, rfl, hs, hq⟩ := sl_of_dOk (fun cs h => int1_of_cells h) h1
  obtain ⟨a', len', cap', l', rfl, hs', hq'⟩ := sl_of_dOk (fun cs h => int1_of_cells h) h2
  exact ⟨⟨⟨a, len, cap, l⟩, ⟨a', len', cap', l'⟩⟩, rfl, ⟨hs, hq⟩, hs', hq'⟩
theorem Open.deep_job : Open.deepK Tryz.prog 8 30 = some jobK := by kernel_rfl
set_option maxRecDepth 100000 in
theorem Open.open_job {H : Type} {enc : TypeId × Value → H} {w : World} {r : Reach} {b0 : Nat} {v : Value} {d : DataW H} {p : List MemPlace}
    (hv : Value.okWide Tryz.prog w r b0 30 v) (h : DataW.Trod enc Tryz.prog w 0 (fun _ => true) true 30 v d p) :
    ∃ x : JobI, v = .agg x.L.toArray ∧ x.good w := by
  have hagg : ∃ cs : Array Value, v = .agg cs := by
    unfold Value.okWide at hv
    rw [Tryz.underlying30] at hv
    obtain ⟨cs, e, _⟩ := hv; exact ⟨cs, e⟩
  obtain ⟨cs, rfl⟩ := hagg
  obtain ⟨fuel, hf⟩ := h
  have hd := Open.deep_ok 8 _ _ fuel cs.toList _ Open.deep_job (by simpa [Value.cells] using hf)
  obtain ⟨g, vs, e, hl, hi, h⟩ := dOk_ints 18 hd
  obtain ⟨b, vs1, rfl, hb⟩ := dOk_bool h
  obtain ⟨v1, vs2, rfl, h1, hb1⟩ := dOk_sl hb
  obtain ⟨v2, vs3, rfl, h2, hb2⟩ := dOk_sl hb1
  obtain ⟨v3, vs4, rfl, h3, hb3⟩ := dOk_sl hb2
  obtain rfl := dOk_nil hb3
  obtain ⟨a1, n1, c1, l1, rfl, hs1, hq1⟩ := sl_of_dOk (fun cs h => Itm.of_cells h) h1
  obtain ⟨a2, n2, c2, l2, rfl, hs2, hq2⟩ := sl_of_dOk (fun cs h => Nt.of_cells h) h2
  obtain ⟨a3, n3, c3, l3, rfl, hs3, hq3⟩ := sl_of_dOk (fun cs h => Flt.of_cells h) h3
  refine ⟨⟨g, b, ⟨a1, n1, c1, l1⟩, ⟨a2, n2, c2, l2⟩, ⟨a3, n3, c3, l3⟩⟩, ?_, hl, hi, hs1, hq1, hs2, hq2, hs3, hq3⟩
  unfold JobI.L jobL
  rw [← e]
/-- A list from one element for each place. -/
theorem All2.ghosts {w : World} {F : List Nat} {base : Nat} : ∀ {ns : List Nt} {ds : List NtD}, All2 (NtOk F w base) ns ds → (∀ d, d ∈ ds → d.ok) → ∃ ms : List Nt, ms.length = ns.length ∧ ms.flatMap Nt.cells = ns.flatMap Nt.cells ∧ ms.map Nt.d = ds ∧ ∀ y, y ∈ ms → y.good w
  | _, _, .nil, _ => ⟨[], rfl, rfl, rfl, fun _ h => by cases h⟩
  | _, _, .snoc (l := l) (l' := l') (x := x) (y := y) a h, ho => by
    obtain ⟨ms, h1, h2, h3, h4⟩ := All2.ghosts a (fun d hd => ho d (List.mem_append_left _ hd))
    have hy := ho y (by simp)
    have s1 := Row.slok (enc := enc1) (n := 1) (fun _ => rfl) h.1.1
    have s2 := Row.slok (enc := enc1) (n := 1) (fun _ => rfl) h.2.1
    refine ⟨ms ++ [⟨⟨x.ls.a, x.ls.len, x.ls.cap, y.lines⟩, ⟨x.ps.a, x.ps.len, x.ps.cap, y.pens⟩⟩], by simp [h1], ?_, by rw [List.map_append, h3]; rfl, fun z hz => ?_⟩
    · rw [List.flatMap_append, List.flatMap_append, h2]; rfl
    · rcases List.mem_append.1 hz with hz | hz
      · exact h4 z hz
      · rw [List.mem_singleton] at hz
        rw [hz]
        exact ⟨⟨s1, hy.1⟩, s2, hy.2⟩
theorem JRep.jobI {w : World} {base : Nat} {iv nv fv : Value} {j : JobD} (h : JRep w base iv nv fv j) (ho : j.ok) : ∃ x : JobI, x.good w ∧ x.d = j ∧ x.L = jobL j.g j.bal iv nv fv := by
  obtain ⟨h1, ⟨F, ns, h2, h3, h4⟩, h5⟩ := h
  obtain ⟨ms, m1, m2, m3, m4⟩ := h3.ghosts ho.notes
  obtain ⟨a1, c1, rfl, s1⟩ := h1.sl (fun _ => rfl)
  obtain ⟨a2, c2, rfl, s2⟩ := (h2.ghost m1 m2).sl (fun _ => rfl)
  obtain ⟨a3, c3, rfl, s3⟩ := h5.sl (fun _ => rfl)
  exact ⟨⟨j.g, j.bal, ⟨a1, j.items.length, c1, j.items⟩, ⟨a2, ms.length, c2, ms⟩, ⟨a3, j.floats.length, c3, j.floats⟩⟩, ⟨ho.len, ho.g, s1, ho.items, s2, m4, s3, ho.floats⟩, by unfold JobI.d; rw [m3], rfl⟩
/-- No job at all. -/
def jobI0 : JobI := ⟨job0.g, false, ⟨none, 0, 0, []⟩, ⟨none, 0, 0, []⟩, ⟨none, 0, 0, []⟩⟩
theorem slOk_nil {α : Type} (w : World) (n : Nat) (enc : α → List Value) : SlOk w n enc none 0 0 [] := ⟨rfl, Nat.le_refl _, Nat.zero_le _, .inl rfl⟩
theorem jobI0_good (w : World) : jobI0.good w := ⟨rfl, job0_ok.g, slOk_nil _ _ _, (fun _ h => by cases h), slOk_nil _ _ _, (fun _ h => by cases h), slOk_nil _ _ _, (fun _ h => by cases h)⟩
theorem jobI0_d : jobI0.d = job0 := rfl
theorem jobI0_L : jobI0.L = jobZ := rfl
end Go.Proofs.YtaekeogaakogbaaGreatDoor
namespace Go.Proofs.YtaekeogaakogbaaGreatDoor

open Go.ChangeShapes Go.WideShapes Go.ChangeAt Go.RowKit Go.Shelf

theorem eqItm (d : Nat) (w : World) (a0 a1 a2 a3 a4 a5 a6 : Int) :
    (Op.equalIn (d + 3) 43 (.agg #[.int .i64 a0, .int .i64 a1, .int .i64 a2, .int .i64 a3, .int .i64 a4, .int .i64 a5, .int .i64 a6]) (.agg #[.int .i64 a0, .int .i64 a1, .int .i64 a2, .int .i64 a3, .int .i64 a4, .int .i64 a5, .int .i64 a6])).run Tryz.prog w = .ok true w := by
  have hu := Tryz.underlying43
  go_simp
theorem eqFlt (d : Nat) (w : World) (a0 a1 a2 : Int) :
    (Op.equalIn (d + 3) 91 (.agg #[.int .i64 a0, .int .i64 a1, .int .i64 a2]) (.agg #[.int .i64 a0, .int .i64 a1, .int .i64 a2])).run Tryz.prog w = .ok true w := by
  have hu := Tryz.underlying91
  go_simp
def geoL (g : List Int) (b : Bool) : List Value := intsG g ++ [.bool b]
theorem geoL_len {g : List Int} {b : Bool} (h : g.length = 18) : (geoL g b).length = 19 := by unfold geoL; rw [List.length_append, intsG_len, h]; rfl
theorem list18 {g : List Int} (h : g.length = 18) : ∃ a0 a1 a2 a3 a4 a5 a6 a7 a8 a9 a10 a11 a12 a13 a14 a15 a16 a17, g = [a0, a1, a2, a3, a4, a5, a6, a7, a8, a9, a10, a11, a12, a13, a14, a15, a16, a17] := by
  obtain _ | ⟨a0, _ | ⟨a1, _ | ⟨a2, _ | ⟨a3, _ | ⟨a4, _ | ⟨a5, _ | ⟨a6, _ | ⟨a7, _ | ⟨a8, g⟩⟩⟩⟩⟩⟩⟩⟩⟩ := g
  all_goals (first | (exfalso; simp at h; done) | skip)
  obtain _ | ⟨a9, _ | ⟨a10, _ | ⟨a11, _ | ⟨a12, _ | ⟨a13, _ | ⟨a14, _ | ⟨a15, _ | ⟨a16, _ | ⟨a17, g⟩⟩⟩⟩⟩⟩⟩⟩⟩ := g
  all_goals (first | (exfalso; simp at h; done) | skip)
  obtain _ | ⟨y, g⟩ := g
  · exact ⟨a0, a1, a2, a3, a4, a5, a6, a7, a8, a9, a10, a11, a12, a13, a14, a15, a16, a17, rfl⟩
  · exfalso; simp at h
set_option maxRecDepth 100000 in
set_option maxHeartbeats 2000000 in
theorem eqGeo {g : List Int} {b : Bool} (hg : g.length = 18) (d : Nat) (w : World) :
    (Op.equalIn (d + 3) 25 (.agg (geoL g b).toArray) (.agg (geoL g b).toArray)).run Tryz.prog w = .ok true w := by
  obtain ⟨a0, a1, a2, a3, a4, a5, a6, a7, a8, a9, a10, a11, a12, a13, a14, a15, a16, a17, rfl⟩ := list18 hg
  show (Op.equalIn (d + 3) 25 (.agg #[.int .i64 a0, .int .i64 a1, .int .i64 a2, .int .i64 a3, .int .i64 a4, .int .i64 a5, .int .i64 a6, .int .i64 a7, .int .i64 a8, .int .i64 a9, .int .i64 a10, .int .i64 a11, .int .i64 a12, .int .i64 a13, .int .i64 a14, .int .i64 a15, .int .i64 a16, .int .i64 a17, .bool b]) (.agg #[.int .i64 a0, .int .i64 a1, .int .i64 a2, .int .i64 a3, .int .i64 a4, .int .i64 a5, .int .i64 a6, .int .i64 a7, .int .i64 a8, .int .i64 a9, .int .i64 a10, .int .i64 a11, .int .i64 a12, .int .i64 a13, .int .i64 a14, .int .i64 a15, .int .i64 a16, .int .i64 a17, .bool b])).run Tryz.prog w = .ok true w
  have hu := Tryz.underlying25
  go_simp
/-- An element of a slice, where it lies. -/
theorem SlOk.at {α : Type} {w : World} {n : Nat} {enc : α → List Value} {a : Option Addr} {len cap : Nat} {l : List α} (h : SlOk w n enc a len cap l) {k : Nat} (hk : k < len) : ∃ g o x, a = some ⟨g, o, none⟩ ∧ g < w.heap.size ∧ l[k]? = some x ∧ ∀ (j : Nat) (v : Value), (enc x)[j]? = some v → w.cell? ⟨g, o + k * n + j, none⟩ = some v := by
  obtain ⟨h1, _, _, h4⟩ := h
  rcases h4 with e | ⟨g, o, ha, hg, r⟩
  · rw [e] at h1; simp at h1; omega
  · have hkl : k < l.length := by omega
    exact ⟨g, o, l[k], ha, hg, List.getElem?_eq_getElem hkl, fun j v hv => r k _ (List.getElem?_eq_getElem hkl) j v hv⟩
set_option maxRecDepth 100000 in
set_option maxHeartbeats 4000000 in
theorem same12_any (x y : SlV Flt) (w : World) (h1 : SlOk w 3 Flt.cells x.a x.len x.cap x.l) (h2 : SlOk w 3 Flt.cells y.a y.len y.cap y.l) (he : x.l = y.l) :
    Calls Tryz.prog 15 #[.slice x.a x.len x.cap, .slice y.a y.len y.cap] w fun e w' => e = .returned (.bool true) ∧ Kp w w' := by
  obtain ⟨a1, n, c1, l⟩ := x
  obtain ⟨a2, n2, c2, l2⟩ := y
  simp only at he h1 h2 ⊢
  subst he
  obtain rfl : n = n2 := h1.1.symm.trans h2.1
  have hc1 := h1.2.1
  have hm1 := h1.2.2.1
  have hc2 := h2.2.1
  have hm2 := h2.2.2.1
  unfold maxLen at hm1 hm2
  have H1 := Lib.hid h1
  have H2 := Lib.hid h2
  have eP := @eqFlt
  clear h1 h2
  go_enter Tryz.func15, Tryz.ntmps15
  go_wp2_with fail
  go_loopw [5] (fun v5 wr => ∃ k : Nat, k ≤ n ∧ v5 = .int .i64 k ∧ Kp w wr) (fun v5 _ => n - (intOf v5).toNat)
  case atStart => exact ⟨0, Nat.zero_le _, rfl, (by (repeat (first | with_reducible assumption | with_reducible exact Kp.refl _ | with_reducible refine Kp.drew ?_ | with_reducible refine Kp.drewN ?_ _ | with_reducible refine Kp.alloc ?_ _ | ((with_reducible refine Kp.setCell ?_ ?_ _); rotate_left; (focus (first | omega | (simp; done) | (simp; omega)))) | with_reducible refine Kp.trans ?_ (by assumption))))⟩
  case round =>
    obtain ⟨k, hk, rfl, xk⟩ := hrel
    by_cases hlt : k < n
    · obtain ⟨ga, oa, ⟨x0, x1, x2⟩, rfl, hga, hx, r1⟩ := (H1.out.kp xk).at hlt
      obtain ⟨gb, ob, y, rfl, hgb, hy, r2⟩ := (H2.out.kp xk).at hlt
      obtain rfl := Option.some.inj (hx.symm.trans hy)
      have d0 := r1 0 _ rfl; have d1 := r1 1 _ rfl; have d2 := r1 2 _ rfl
      have f0 := r2 0 _ rfl; have f1 := r2 1 _ rfl; have f2 := r2 2 _ rfl
      simp only [Nat.add_zero] at d0 d1 d2 f0 f1 f2
      have j1 : decide ((k : Int) < (n : Int)) = true := decide_eq_true (by omega)
      have hc1' : k < c1 := by omega
      have hc2' : k < c2 := by omega
      clear r1 r2 hx hy
      go_wp2_with fail
      (refine wp_region_held_drew (S := (fun w' => (∀ b o, b < wr.heap.size → w'.cell? ⟨b, o, none⟩ = wr.cell? ⟨b, o, none⟩) ∧ Kp wr w')) (by kernel_rfl) ?_ (fun hHd => ?_); (focus ((try dsimp only); (first | with_reducible assumption | with_reducible exact held_start _ | with_reducible exact held_next (by assumption) (by assumption) | with_reducible exact held_alloc (by assumption) _ | with_reducible exact held_drew (by assumption) | ((with_reducible refine held_kp ?_); (repeat (first | with_reducible assumption | with_reducible exact Kp.refl _ | with_reducible refine Kp.drew ?_ | with_reducible refine Kp.drewN ?_ _ | with_reducible refine Kp.alloc ?_ _ | ((with_reducible refine Kp.setCell ?_ ?_ _); rotate_left; (focus (first | omega | (simp; done) | (simp; omega)))) | with_reducible refine Kp.trans ?_ (by assumption))))))))
      (refine takeH (i := 0) (oi := ?o1) (v := ?v1) ?h1 (by kernel_rfl) ?q1 (Or.inl ⟨?w1, ?y1⟩) (by assumption) ?r1; (case h1 => ((simp only [g1, g3]); rfl)); (case q1 => exact fun _ _ _ h => h); (case w1 => rfl); (case y1 => (intro w' hSw; (try dsimp only at hSw); go_simp; (try with_reducible rfl))); (try simp only [Act.put, s1, s2, s3]))
      (refine takeH (i := 1) (oi := ?o2) (v := ?v2) ?h2 (by kernel_rfl) ?q2 (Or.inl ⟨?w2, ?y2⟩) (by assumption) ?r2; (case h2 => ((simp only [g1, g2, g3]); rfl)); (case q2 => exact fun _ _ _ h => h); (case w2 => rfl); (case y2 => (intro w' hSw; (try dsimp only at hSw); go_simp; (try with_reducible rfl))); (try simp only [Act.put, s1, s2, s3]))
      (refine takeH (i := 2) (oi := ?o3) (v := ?v3) ?h3 (by kernel_rfl) ?q3 (Or.inl ⟨?w3, ?y3⟩) (by assumption) ?r3; (case h3 => ((simp only [g1, g2, g3]); rfl)); (case q3 => exact fun _ _ _ h => h); (case w3 => rfl); (case y3 => (intro w' hSw; (try dsimp only at hSw); go_simp; (try with_reducible rfl))); (try simp only [Act.put, s1, s2, s3]))
      (refine takeH (i := 3) (oi := ?o4) (v := ?v4) ?h4 (by kernel_rfl) ?q4 (Or.inl ⟨?w4, ?y4⟩) (by assumption) ?r4; (case h4 => ((simp only [g1, g2, g3]); rfl)); (case q4 => exact fun _ _ _ h => h); (case w4 => rfl); (case y4 => (intro w' hSw; (try dsimp only at hSw); go_simp; (try with_reducible rfl))); (try simp only [Act.put, s1, s2, s3]))
      (refine takeH (i := 4) (oi := ?o5) (v := ?v5) ?h5 (by kernel_rfl) ?q5 (Or.inl ⟨?w5, ?y5⟩) (by assumption) ?r5; (case h5 => ((simp only [g1, g2, g3]); rfl)); (case q5 => exact fun _ _ _ h => h); (case w5 => rfl); (case y5 => (intro w' hSw; (try dsimp only at hSw); go_simp; (try with_reducible rfl))); (try simp only [Act.put, s1, s2, s3]))
      (refine takeH (i := 5) (oi := ?o6) (v := ?v6) ?h6 (by kernel_rfl) ?q6 (Or.inl ⟨?w6, ?y6⟩) (by assumption) ?r6; (case h6 => ((simp only [g1, g2, g3]); rfl)); (case q6 => exact fun _ _ _ h => h); (case w6 => rfl); (case y6 => (intro w' hSw; (try dsimp only at hSw); go_simp; (try with_reducible rfl))); (try simp only [Act.put, s1, s2, s3]))
      (refine takeH (i := 6) (oi := ?o7) (v := ?v7) ?h7 (by kernel_rfl) ?q7 (Or.inl ⟨?w7, ?y7⟩) (by assumption) ?r7; (case h7 => ((simp only [g1, g2, g3]); rfl)); (case q7 => exact fun _ _ _ h => h); (case w7 => rfl); (case y7 => (intro w' hSw; (try dsimp only at hSw); go_simp; (try with_reducible rfl))); (try simp only [Act.put, s1, s2, s3]))
      (refine takeH (i := 7) (oi := ?o8) (v := ?v8) ?h8 (by kernel_rfl) ?q8 (Or.inl ⟨?w8, ?y8⟩) (by assumption) ?r8; (case h8 => ((simp only [g1, g2, g3]); rfl)); (case q8 => exact fun _ _ _ h => h); (case w8 => rfl); (case y8 => (intro w' hSw; (try dsimp only at hSw); go_simp; (try with_reducible rfl))); (try simp only [Act.put, s1, s2, s3]))
      (refine takeH (i := 8) (oi := ?o9) (v := ?v9) ?h9 (by kernel_rfl) ?q9 (Or.inl ⟨?w9, ?y9⟩) (by assumption) ?r9; (case h9 => ((simp only [g1, g2, g3]); rfl)); (case q9 => exact fun _ _ _ h => h); (case w9 => rfl); (case y9 => (intro w' hSw; (try dsimp only at hSw); go_simp; (try with_reducible rfl))); (try simp only [Act.put, s1, s2, s3]))
      refine wpAnyH_done (by kernel_rfl) ?_ _
      go_wp2_with fail
      go_roundw
      case rel => exact ⟨k + 1, by omega, by go_num, (by (repeat (first | with_reducible assumption | with_reducible exact Kp.refl _ | with_reducible refine Kp.drew ?_ | with_reducible refine Kp.drewN ?_ _ | with_reducible refine Kp.alloc ?_ _ | ((with_reducible refine Kp.setCell ?_ ?_ _); rotate_left; (focus (first | omega | (simp; done) | (simp; omega)))) | with_reducible refine Kp.trans ?_ (by assumption))))⟩
      case measure => simp [intOf]; omega
    · obtain rfl : k = n := by omega
      have j1 : decide ((k : Int) < (k : Int)) = false := decide_eq_false (by omega)
      go_wp2_with fail
      (try go_ret)
      exact ⟨rfl, xk⟩
set_option maxRecDepth 100000 in
set_option maxHeartbeats 4000000 in
theorem same11_any (x y : Nt) (w : World) (h1 : x.good w) (h2 : y.good w) (he : x.d = y.d) :
    Calls Tryz.prog 30 #[.agg #[.slice x.ls.a x.ls.len x.ls.cap, .slice x.ps.a x.ps.len x.ps.cap], .agg #[.slice y.ls.a y.ls.len y.ls.cap, .slice y.ps.a y.ps.len y.ps.cap]] w fun e w' => e = .returned (.bool true) ∧ Kp w w' := by
  obtain ⟨⟨a1, n, c1, l⟩, ⟨b1, m, e1, q⟩⟩ := x
  obtain ⟨⟨a2, n2, c2, l2⟩, ⟨b2, m2, e2, q2⟩⟩ := y
  obtain ⟨⟨h1, -⟩, g1, -⟩ := h1
  obtain ⟨⟨h2, -⟩, g2, -⟩ := h2
  simp only [Nt.d, NtD.mk.injEq] at he h1 h2 g1 g2 ⊢
  obtain ⟨rfl, rfl⟩ := he
  obtain rfl : n = n2 := h1.1.symm.trans h2.1
  obtain rfl : m = m2 := g1.1.symm.trans g2.1
  have hc1 := h1.2.1
  have hm1 := h1.2.2.1
  have hc2 := h2.2.1
  have hm2 := h2.2.2.1
  have kc1 := g1.2.1
  have km1 := g1.2.2.1
  have kc2 := g2.2.1
  have km2 := g2.2.2.1
  unfold maxLen at hm1 hm2 km1 km2
  have H1 := Lib.hid h1
  have H2 := Lib.hid h2
  have G1 := Lib.hid g1
  have G2 := Lib.hid g2
  clear h1 h2 g1 g2
  go_enter Tryz.func30, Tryz.ntmps30
  go_wp2_with fail
  refine named_world (F := fun w3 => Blk w3 w.heap.size [.slice a1 n c1, .slice b1 m e1] 47 ∧ Blk w3 (w.heap.size + 1) [.slice a2 n c2, .slice b2 m e2] 47 ∧ Kp w w3) ⟨(by (repeat (first | with_reducible assumption | ((with_reducible refine Blk.newL ?_ ?_); (focus (first | (simp; done) | omega)); rfl) | with_reducible refine Blk.drew ?_ | with_reducible refine Blk.drewN ?_ _ | with_reducible refine Blk.alloc ?_ _ | ((with_reducible refine Blk.other ?_ ?_ _); rotate_left; (focus (first | with_reducible assumption | omega | (simp; done) | (simp; omega))))))), (by (repeat (first | with_reducible assumption | ((with_reducible refine Blk.newL ?_ ?_); (focus (first | (simp; done) | omega)); rfl) | with_reducible refine Blk.drew ?_ | with_reducible refine Blk.drewN ?_ _ | with_reducible refine Blk.alloc ?_ _ | ((with_reducible refine Blk.other ?_ ?_ _); rotate_left; (focus (first | with_reducible assumption | omega | (simp; done) | (simp; omega))))))), (by (repeat (first | with_reducible assumption | with_reducible exact Kp.refl _ | with_reducible refine Kp.drew ?_ | with_reducible refine Kp.drewN ?_ _ | with_reducible refine Kp.alloc ?_ _ | ((with_reducible refine Kp.setCell ?_ ?_ _); rotate_left; (focus (first | omega | (simp; done) | (simp; omega)))) | with_reducible refine Kp.trans ?_ (by assumption))))⟩ ?_
  rintro w3 ⟨hA, hB, k3⟩
  have HA := Lib.hid hA
  have HB := Lib.hid hB
  have z0 := hA.cell 0 rfl
  have hal := hA.lt
  have hbl := hB.lt
  clear hA hB
  go_loopw [5] (fun v5 wr => ∃ k : Nat, k ≤ n ∧ v5 = .int .i64 k ∧ Kp w3 wr) (fun v5 _ => n - (intOf v5).toNat)
  case atStart => exact ⟨0, Nat.zero_le _, rfl, (by (repeat (first | with_reducible assumption | with_reducible exact Kp.refl _ | with_reducible refine Kp.drew ?_ | with_reducible refine Kp.drewN ?_ _ | with_reducible refine Kp.alloc ?_ _ | ((with_reducible refine Kp.setCell ?_ ?_ _); rotate_left; (focus (first | omega | (simp; done) | (simp; omega)))) | with_reducible refine Kp.trans ?_ (by assumption))))⟩
  case round =>
    obtain ⟨k, hk, rfl, xk⟩ := hrel
    have xk0 := k3.trans xk
    have za := (HA.out.kp xk).cell 0 rfl
    have zb := (HB.out.kp xk).cell 0 rfl
    have hal' := Nat.lt_of_lt_of_le hal xk.size
    have hbl' := Nat.lt_of_lt_of_le hbl xk.size
    by_cases hlt : k < n
    · obtain ⟨ga, oa, x0, rfl, hga, hx, r1⟩ := (H1.out.kp xk0).at hlt
      obtain ⟨gb, ob, y, rfl, hgb, hy, r2⟩ := (H2.out.kp xk0).at hlt
      obtain rfl := Option.some.inj (hx.symm.trans hy)
      have d0 := r1 0 _ rfl
      have f0 := r2 0 _ rfl
      simp only [Nat.add_zero, Nat.mul_one] at d0 f0
      have j1 : decide ((k : Int) < (n : Int)) = true := decide_eq_true (by omega)
      have hc1' : k < c1 := by omega
      have hc2' : k < c2 := by omega
      clear r1 r2 hx hy
      go_wp2_with fail
      (refine wp_region_held_drew (S := (fun w' => (∀ b o, b < wr.heap.size → w'.cell? ⟨b, o, none⟩ = wr.cell? ⟨b, o, none⟩) ∧ Kp wr w')) (by kernel_rfl) ?_ (fun hHd => ?_); (focus ((try dsimp only); (first | with_reducible assumption | with_reducible exact held_start _ | with_reducible exact held_next (by assumption) (by assumption) | with_reducible exact held_alloc (by assumption) _ | with_reducible exact held_drew (by assumption) | ((with_reducible refine held_kp ?_); (repeat (first | with_reducible assumption | with_reducible exact Kp.refl _ | with_reducible refine Kp.drew ?_ | with_reducible refine Kp.drewN ?_ _ | with_reducible refine Kp.alloc ?_ _ | ((with_reducible refine Kp.setCell ?_ ?_ _); rotate_left; (focus (first | omega | (simp; done) | (simp; omega)))) | with_reducible refine Kp.trans ?_ (by assumption))))))))
      (refine takeH (i := 0) (oi := ?o10) (v := ?v10) ?h10 (by kernel_rfl) ?q10 (Or.inl ⟨?w10, ?y10⟩) (by assumption) ?r10; (case h10 => ((simp only [g1, g3]); rfl)); (case q10 => exact fun _ _ _ h => h); (case w10 => rfl); (case y10 => (intro w' hSw; (try dsimp only at hSw); go_simp; (try with_reducible rfl))); (try simp only [Act.put, s1, s2, s3]))
      (refine takeH (i := 1) (oi := ?o11) (v := ?v11) ?h11 (by kernel_rfl) ?q11 (Or.inl ⟨?w11, ?y11⟩) (by assumption) ?r11; (case h11 => ((simp only [g1, g2, g3]); rfl)); (case q11 => exact fun _ _ _ h => h); (case w11 => rfl); (case y11 => (intro w' hSw; (try dsimp only at hSw); go_simp; (try with_reducible rfl))); (try simp only [Act.put, s1, s2, s3]))
      (refine takeH (i := 2) (oi := ?o12) (v := ?v12) ?h12 (by kernel_rfl) ?q12 (Or.inl ⟨?w12, ?y12⟩) (by assumption) ?r12; (case h12 => ((simp only [g1, g2, g3]); rfl)); (case q12 => exact fun _ _ _ h => h); (case w12 => rfl); (case y12 => (intro w' hSw; (try dsimp only at hSw); go_simp; (try with_reducible rfl))); (try simp only [Act.put, s1, s2, s3]))
      (refine takeH (i := 3) (oi := ?o13) (v := ?v13) ?h13 (by kernel_rfl) ?q13 (Or.inl ⟨?w13, ?y13⟩) (by assumption) ?r13; (case h13 => ((simp only [g1, g2, g3]); rfl)); (case q13 => exact fun _ _ _ h => h); (case w13 => rfl); (case y13 => (intro w' hSw; (try dsimp only at hSw); go_simp; (try with_reducible rfl))); (try simp only [Act.put, s1, s2, s3]))
      (refine takeH (i := 4) (oi := ?o14) (v := ?v14) ?h14 (by kernel_rfl) ?q14 (Or.inl ⟨?w14, ?y14⟩) (by assumption) ?r14; (case h14 => ((simp only [g1, g2, g3]); rfl)); (case q14 => exact fun _ _ _ h => h); (case w14 => rfl); (case y14 => (intro w' hSw; (try dsimp only at hSw); go_simp; (try with_reducible rfl))); (try simp only [Act.put, s1, s2, s3]))
      (refine takeH (i := 5) (oi := ?o15) (v := ?v15) ?h15 (by kernel_rfl) ?q15 (Or.inl ⟨?w15, ?y15⟩) (by assumption) ?r15; (case h15 => ((simp only [g1, g2, g3]); rfl)); (case q15 => exact fun _ _ _ h => h); (case w15 => rfl); (case y15 => (intro w' hSw; (try dsimp only at hSw); go_simp; (try with_reducible rfl))); (try simp only [Act.put, s1, s2, s3]))
      (refine takeH (i := 6) (oi := ?o16) (v := ?v16) ?h16 (by kernel_rfl) ?q16 (Or.inl ⟨?w16, ?y16⟩) (by assumption) ?r16; (case h16 => ((simp only [g1, g2, g3]); rfl)); (case q16 => exact fun _ _ _ h => h); (case w16 => rfl); (case y16 => (intro w' hSw; (try dsimp only at hSw); go_simp; (try with_reducible rfl))); (try simp only [Act.put, s1, s2, s3]))
      (refine takeH (i := 7) (oi := ?o17) (v := ?v17) ?h17 (by kernel_rfl) ?q17 (Or.inl ⟨?w17, ?y17⟩) (by assumption) ?r17; (case h17 => ((simp only [g1, g2, g3]); rfl)); (case q17 => exact fun _ _ _ h => h); (case w17 => rfl); (case y17 => (intro w' hSw; (try dsimp only at hSw); go_simp; (try with_reducible rfl))); (try simp only [Act.put, s1, s2, s3]))
      (refine takeH (i := 8) (oi := ?o18) (v := ?v18) ?h18 (by kernel_rfl) ?q18 (Or.inl ⟨?w18, ?y18⟩) (by assumption) ?r18; (case h18 => ((simp only [g1, g2, g3]); rfl)); (case q18 => exact fun _ _ _ h => h); (case w18 => rfl); (case y18 => (intro w' hSw; (try dsimp only at hSw); go_simp; (try with_reducible rfl))); (try simp only [Act.put, s1, s2, s3]))
      (refine takeH (i := 9) (oi := ?o19) (v := ?v19) ?h19 (by kernel_rfl) ?q19 (Or.inl ⟨?w19, ?y19⟩) (by assumption) ?r19; (case h19 => ((simp only [g1, g2, g3]); rfl)); (case q19 => exact fun _ _ _ h => h); (case w19 => rfl); (case y19 => (intro w' hSw; (try dsimp only at hSw); go_simp; (try with_reducible rfl))); (try simp only [Act.put, s1, s2, s3]))
      (refine takeH (i := 10) (oi := ?o20) (v := ?v20) ?h20 (by kernel_rfl) ?q20 (Or.inl ⟨?w20, ?y20⟩) (by assumption) ?r20; (case h20 => ((simp only [g1, g2, g3]); rfl)); (case q20 => exact fun _ _ _ h => h); (case w20 => rfl); (case y20 => (intro w' hSw; (try dsimp only at hSw); go_simp; (try with_reducible rfl))); (try simp only [Act.put, s1, s2, s3]))
      refine wpAnyH_done (by kernel_rfl) ?_ _
      go_wp2_with fail
      go_roundw
      case rel => exact ⟨k + 1, by omega, by go_num, (by (repeat (first | with_reducible assumption | with_reducible exact Kp.refl _ | with_reducible refine Kp.drew ?_ | with_reducible refine Kp.drewN ?_ _ | with_reducible refine Kp.alloc ?_ _ | ((with_reducible refine Kp.setCell ?_ ?_ _); rotate_left; (focus (first | omega | (simp; done) | (simp; omega)))) | with_reducible refine Kp.trans ?_ (by assumption))))⟩
      case measure => simp [intOf]; omega
    · obtain rfl : k = n := by omega
      have j1 : decide ((k : Int) < (k : Int)) = false := decide_eq_false (by omega)
      go_wp2_with fail
      go_loopw [6] (fun v6 wr => ∃ i : Nat, i ≤ m ∧ v6 = .int .i64 i ∧ Kp w3 wr) (fun v6 _ => m - (intOf v6).toNat)
      case atStart => exact ⟨0, Nat.zero_le _, rfl, xk⟩
      case round =>
        clear xk0 za zb hal' hbl' xk
        obtain ⟨i, hi, rfl, yk⟩ := hrel
        have yk0 := k3.trans yk
        have za := (HA.out.kp yk).cell 1 rfl
        have zb := (HB.out.kp yk).cell 1 rfl
        have hal' := Nat.lt_of_lt_of_le hal yk.size
        have hbl' := Nat.lt_of_lt_of_le hbl yk.size
        by_cases hlt2 : i < m
        · obtain ⟨ga, oa, x0, rfl, hga, hx, r1⟩ := (G1.out.kp yk0).at hlt2
          obtain ⟨gb, ob, y, rfl, hgb, hy, r2⟩ := (G2.out.kp yk0).at hlt2
          obtain rfl := Option.some.inj (hx.symm.trans hy)
          have d0 := r1 0 _ rfl
          have f0 := r2 0 _ rfl
          simp only [Nat.add_zero, Nat.mul_one] at d0 f0
          have j2 : decide ((i : Int) < (m : Int)) = true := decide_eq_true (by omega)
          have hc1' : i < e1 := by omega
          have hc2' : i < e2 := by omega
          clear r1 r2 hx hy
          go_wp2_with fail
          (refine wp_region_held_drew (S := (fun w' => (∀ b o, b < wr.heap.size → w'.cell? ⟨b, o, none⟩ = wr.cell? ⟨b, o, none⟩) ∧ Kp wr w')) (by kernel_rfl) ?_ (fun hHd => ?_); (focus ((try dsimp only); (first | with_reducible assumption | with_reducible exact held_start _ | with_reducible exact held_next (by assumption) (by assumption) | with_reducible exact held_alloc (by assumption) _ | with_reducible exact held_drew (by assumption) | ((with_reducible refine held_kp ?_); (repeat (first | with_reducible assumption | with_reducible exact Kp.refl _ | with_reducible refine Kp.drew ?_ | with_reducible refine Kp.drewN ?_ _ | with_reducible refine Kp.alloc ?_ _ | ((with_reducible refine Kp.setCell ?_ ?_ _); rotate_left; (focus (first | omega | (simp; done) | (simp; omega)))) | with_reducible refine Kp.trans ?_ (by assumption))))))))
          (refine takeH (i := 0) (oi := ?o21) (v := ?v21) ?h21 (by kernel_rfl) ?q21 (Or.inl ⟨?w21, ?y21⟩) (by assumption) ?r21; (case h21 => ((simp only [g1, g3]); rfl)); (case q21 => exact fun _ _ _ h => h); (case w21 => rfl); (case y21 => (intro w' hSw; (try dsimp only at hSw); go_simp; (try with_reducible rfl))); (try simp only [Act.put, s1, s2, s3]))
          (refine takeH (i := 1) (oi := ?o22) (v := ?v22) ?h22 (by kernel_rfl) ?q22 (Or.inl ⟨?w22, ?y22⟩) (by assumption) ?r22; (case h22 => ((simp only [g1, g2, g3]); rfl)); (case q22 => exact fun _ _ _ h => h); (case w22 => rfl); (case y22 => (intro w' hSw; (try dsimp only at hSw); go_simp; (try with_reducible rfl))); (try simp only [Act.put, s1, s2, s3]))
          (refine takeH (i := 2) (oi := ?o23) (v := ?v23) ?h23 (by kernel_rfl) ?q23 (Or.inl ⟨?w23, ?y23⟩) (by assumption) ?r23; (case h23 => ((simp only [g1, g2, g3]); rfl)); (case q23 => exact fun _ _ _ h => h); (case w23 => rfl); (case y23 => (intro w' hSw; (try dsimp only at hSw); go_simp; (try with_reducible rfl))); (try simp only [Act.put, s1, s2, s3]))
          (refine takeH (i := 3) (oi := ?o24) (v := ?v24) ?h24 (by kernel_rfl) ?q24 (Or.inl ⟨?w24, ?y24⟩) (by assumption) ?r24; (case h24 => ((simp only [g1, g2, g3]); rfl)); (case q24 => exact fun _ _ _ h => h); (case w24 => rfl); (case y24 => (intro w' hSw; (try dsimp only at hSw); go_simp; (try with_reducible rfl))); (try simp only [Act.put, s1, s2, s3]))
          (refine takeH (i := 4) (oi := ?o25) (v := ?v25) ?h25 (by kernel_rfl) ?q25 (Or.inl ⟨?w25, ?y25⟩) (by assumption) ?r25; (case h25 => ((simp only [g1, g2, g3]); rfl)); (case q25 => exact fun _ _ _ h => h); (case w25 => rfl); (case y25 => (intro w' hSw; (try dsimp only at hSw); go_simp; (try with_reducible rfl))); (try simp only [Act.put, s1, s2, s3]))
          (refine takeH (i := 5) (oi := ?o26) (v := ?v26) ?h26 (by kernel_rfl) ?q26 (Or.inl ⟨?w26, ?y26⟩) (by assumption) ?r26; (case h26 => ((simp only [g1, g2, g3]); rfl)); (case q26 => exact fun _ _ _ h => h); (case w26 => rfl); (case y26 => (intro w' hSw; (try dsimp only at hSw); go_simp; (try with_reducible rfl))); (try simp only [Act.put, s1, s2, s3]))
          (refine takeH (i := 6) (oi := ?o27) (v := ?v27) ?h27 (by kernel_rfl) ?q27 (Or.inl ⟨?w27, ?y27⟩) (by assumption) ?r27; (case h27 => ((simp only [g1, g2, g3]); rfl)); (case q27 => exact fun _ _ _ h => h); (case w27 => rfl); (case y27 => (intro w' hSw; (try dsimp only at hSw); go_simp; (try with_reducible rfl))); (try simp only [Act.put, s1, s2, s3]))
          (refine takeH (i := 7) (oi := ?o28) (v := ?v28) ?h28 (by kernel_rfl) ?q28 (Or.inl ⟨?w28, ?y28⟩) (by assumption) ?r28; (case h28 => ((simp only [g1, g2, g3]); rfl)); (case q28 => exact fun _ _ _ h => h); (case w28 => rfl); (case y28 => (intro w' hSw; (try dsimp only at hSw); go_simp; (try with_reducible rfl))); (try simp only [Act.put, s1, s2, s3]))
          (refine takeH (i := 8) (oi := ?o29) (v := ?v29) ?h29 (by kernel_rfl) ?q29 (Or.inl ⟨?w29, ?y29⟩) (by assumption) ?r29; (case h29 => ((simp only [g1, g2, g3]); rfl)); (case q29 => exact fun _ _ _ h => h); (case w29 => rfl); (case y29 => (intro w' hSw; (try dsimp only at hSw); go_simp; (try with_reducible rfl))); (try simp only [Act.put, s1, s2, s3]))
          (refine takeH (i := 9) (oi := ?o30) (v := ?v30) ?h30 (by kernel_rfl) ?q30 (Or.inl ⟨?w30, ?y30⟩) (by assumption) ?r30; (case h30 => ((simp only [g1, g2, g3]); rfl)); (case q30 => exact fun _ _ _ h => h); (case w30 => rfl); (case y30 => (intro w' hSw; (try dsimp only at hSw); go_simp; (try with_reducible rfl))); (try simp only [Act.put, s1, s2, s3]))
          (refine takeH (i := 10) (oi := ?o31) (v := ?v31) ?h31 (by kernel_rfl) ?q31 (Or.inl ⟨?w31, ?y31⟩) (by assumption) ?r31; (case h31 => ((simp only [g1, g2, g3]); rfl)); (case q31 => exact fun _ _ _ h => h); (case w31 => rfl); (case y31 => (intro w' hSw; (try dsimp only at hSw); go_simp; (try with_reducible rfl))); (try simp only [Act.put, s1, s2, s3]))
          refine wpAnyH_done (by kernel_rfl) ?_ _
          go_wp2_with fail
          go_roundw
          case rel => exact ⟨i + 1, by omega, by go_num, (by (repeat (first | with_reducible assumption | with_reducible exact Kp.refl _ | with_reducible refine Kp.drew ?_ | with_reducible refine Kp.drewN ?_ _ | with_reducible refine Kp.alloc ?_ _ | ((with_reducible refine Kp.setCell ?_ ?_ _); rotate_left; (focus (first | omega | (simp; done) | (simp; omega)))) | with_reducible refine Kp.trans ?_ (by assumption))))⟩
          case measure => simp [intOf]; omega
        · obtain rfl : i = m := by omega
          have j2 : decide ((i : Int) < (i : Int)) = false := decide_eq_false (by omega)
          go_wp2_with fail
          (try go_ret)
          exact ⟨rfl, yk0⟩
set_option maxRecDepth 100000 in
set_option maxHeartbeats 4000000 in
theorem all11_any (x y : SlV Nt) (w : World) (h1 : SlOk w 2 Nt.cells x.a x.len x.cap x.l) (h2 : SlOk w 2 Nt.cells y.a y.len y.cap y.l) (q1 : ∀ z, z ∈ x.l → z.good w) (q2 : ∀ z, z ∈ y.l → z.good w) (he : x.l.map Nt.d = y.l.map Nt.d) :
    Calls Tryz.prog 14 #[.slice x.a x.len x.cap, .slice y.a y.len y.cap] w fun e w' => e = .returned (.bool true) ∧ Kp w w' := by
  obtain ⟨a1, n, c1, l⟩ := x
  obtain ⟨a2, n2, c2, l2⟩ := y
  simp only at he h1 h2 q1 q2 ⊢
  have hll : l.length = l2.length := by have := congrArg List.length he; simpa using this
  obtain rfl : n = n2 := by have := h1.1; have := h2.1; omega
  have hc1 := h1.2.1
  have hm1 := h1.2.2.1
  have hc2 := h2.2.1
  have hm2 := h2.2.2.1
  unfold maxLen at hm1 hm2
  have H1 := Lib.hid h1
  have H2 := Lib.hid h2
  have Q1 := Lib.hid q1
  have Q2 := Lib.hid q2
  have HEQ : Hid (∀ (k : Nat) (x y : Nt), l[k]? = some x → l2[k]? = some y → Nt.d x = Nt.d y) := Lib.hid fun k x y h1 h2 => by
    have := congrArg (fun (q : List NtD) => q[k]?) he
    simpa [List.getElem?_map, h1, h2] using this
  clear h1 h2 q1 q2 he hll
  go_enter Tryz.func14, Tryz.ntmps14
  go_wp2_with fail
  go_loopw [5] (fun v5 wr => ∃ k : Nat, k ≤ n ∧ v5 = .int .i64 k ∧ Kp w wr) (fun v5 _ => n - (intOf v5).toNat)
  case atStart => exact ⟨0, Nat.zero_le _, rfl, (by (repeat (first | with_reducible assumption | with_reducible exact Kp.refl _ | with_reducible refine Kp.drew ?_ | with_reducible refine Kp.drewN ?_ _ | with_reducible refine Kp.alloc ?_ _ | ((with_reducible refine Kp.setCell ?_ ?_ _); rotate_left; (focus (first | omega | (simp; done) | (simp; omega)))) | with_reducible refine Kp.trans ?_ (by assumption))))⟩
  case round =>
    obtain ⟨k, hk, rfl, xk⟩ := hrel
    by_cases hlt : k < n
    · obtain ⟨ga, oa, x, rfl, hga, hx, r1⟩ := (H1.out.kp xk).at hlt
      obtain ⟨gb, ob, y, rfl, hgb, hy, r2⟩ := (H2.out.kp xk).at hlt
      have CS := Lib.hid (fun w' (k' : Kp wr w') => same11_any x y w' ((Q1.out x (List.mem_of_getElem? hx)).kp (xk.trans k')) ((Q2.out y (List.mem_of_getElem? hy)).kp (xk.trans k')) (HEQ.out k x y hx hy))
      have d0 := r1 0 _ rfl; have d1 := r1 1 _ rfl
      have f0 := r2 0 _ rfl; have f1 := r2 1 _ rfl
      simp only [Nat.add_zero] at d0 f0
      have j1 : decide ((k : Int) < (n : Int)) = true := decide_eq_true (by omega)
      have hc1' : k < c1 := by omega
      have hc2' : k < c2 := by omega
      clear r1 r2 hx hy
      go_wp2_with fail
      (refine wp_region_held_drew (S := (fun w' => (∀ b o, b < wr.heap.size → w'.cell? ⟨b, o, none⟩ = wr.cell? ⟨b, o, none⟩) ∧ Kp wr w')) (by kernel_rfl) ?_ (fun hHd => ?_); (focus ((try dsimp only); (first | with_reducible assumption | with_reducible exact held_start _ | with_reducible exact held_next (by assumption) (by assumption) | with_reducible exact held_alloc (by assumption) _ | with_reducible exact held_drew (by assumption) | ((with_reducible refine held_kp ?_); (repeat (first | with_reducible assumption | with_reducible exact Kp.refl _ | with_reducible refine Kp.drew ?_ | with_reducible refine Kp.drewN ?_ _ | with_reducible refine Kp.alloc ?_ _ | ((with_reducible refine Kp.setCell ?_ ?_ _); rotate_left; (focus (first | omega | (simp; done) | (simp; omega)))) | with_reducible refine Kp.trans ?_ (by assumption))))))))
      (refine takeH (i := 0) (oi := ?o32) (v := ?v32) ?h32 (by kernel_rfl) ?q32 (Or.inl ⟨?w32, ?y32⟩) (by assumption) ?r32; (case h32 => ((simp only [g1, g3]); rfl)); (case q32 => exact fun _ _ _ h => h); (case w32 => rfl); (case y32 => (intro w' hSw; (try dsimp only at hSw); go_simp; (try with_reducible rfl))); (try simp only [Act.put, s1, s2, s3]))
      (refine takeH (i := 1) (oi := ?o33) (v := ?v33) ?h33 (by kernel_rfl) ?q33 (Or.inl ⟨?w33, ?y33⟩) (by assumption) ?r33; (case h33 => ((simp only [g1, g2, g3]); rfl)); (case q33 => exact fun _ _ _ h => h); (case w33 => rfl); (case y33 => (intro w' hSw; (try dsimp only at hSw); go_simp; (try with_reducible rfl))); (try simp only [Act.put, s1, s2, s3]))
      (refine takeH (i := 2) (oi := ?o34) (v := ?v34) ?h34 (by kernel_rfl) ?q34 (Or.inl ⟨?w34, ?y34⟩) (by assumption) ?r34; (case h34 => ((simp only [g1, g2, g3]); rfl)); (case q34 => exact fun _ _ _ h => h); (case w34 => rfl); (case y34 => (intro w' hSw; (try dsimp only at hSw); go_simp; (try with_reducible rfl))); (try simp only [Act.put, s1, s2, s3]))
      (refine takeH (i := 3) (oi := ?o35) (v := ?v35) ?h35 (by kernel_rfl) ?q35 (Or.inl ⟨?w35, ?y35⟩) (by assumption) ?r35; (case h35 => ((simp only [g1, g2, g3]); rfl)); (case q35 => exact fun _ _ _ h => h); (case w35 => rfl); (case y35 => (intro w' hSw; (try dsimp only at hSw); go_simp; (try with_reducible rfl))); (try simp only [Act.put, s1, s2, s3]))
      (refine takeH (i := 4) (oi := ?o36) (v := ?v36) ?h36 (by kernel_rfl) ?q36 (Or.inl ⟨?w36, ?y36⟩) (by assumption) ?r36; (case h36 => ((simp only [g1, g2, g3]); rfl)); (case q36 => exact fun _ _ _ h => h); (case w36 => rfl); (case y36 => (intro w' hSw; (try dsimp only at hSw); go_simp; (try with_reducible rfl))); (try simp only [Act.put, s1, s2, s3]))
      (refine takeH (i := 5) (oi := ?o37) (v := ?v37) ?h37 (by kernel_rfl) ?q37 (Or.inl ⟨?w37, ?y37⟩) (by assumption) ?r37; (case h37 => ((simp only [g1, g2, g3]); rfl)); (case q37 => exact fun _ _ _ h => h); (case w37 => rfl); (case y37 => (intro w' hSw; (try dsimp only at hSw); go_simp; (try with_reducible rfl))); (try simp only [Act.put, s1, s2, s3]))
      (refine takeH (i := 6) (oi := ?o38) (v := ?v38) ?h38 (by kernel_rfl) ?q38 (Or.inl ⟨?w38, ?y38⟩) (by assumption) ?r38; (case h38 => ((simp only [g1, g2, g3]); rfl)); (case q38 => exact fun _ _ _ h => h); (case w38 => rfl); (case y38 => (intro w' hSw; (try dsimp only at hSw); go_simp; (try with_reducible rfl))); (try simp only [Act.put, s1, s2, s3]))
      (refine takeH (i := 7) (oi := ?o39) (v := ?v39) ?h39 (by kernel_rfl) ?q39 (Or.inl ⟨?w39, ?y39⟩) (by assumption) ?r39; (case h39 => ((simp only [g1, g2, g3]); rfl)); (case q39 => exact fun _ _ _ h => h); (case w39 => rfl); (case y39 => (intro w' hSw; (try dsimp only at hSw); go_simp; (try with_reducible rfl))); (try simp only [Act.put, s1, s2, s3]))
      (refine wpAnyH_ready (rs := [8]) (by kernel_rfl) (by simp) ?_; refine AllReadyH.cons (o := ?o40) ?h40 (fun K hK => ?s40) AllReadyH.nil; (case h40 => (first | ((simp only [g1, g2, g3]); rfl) | rfl)); go_simp; (first | (go_at_call 30; refine (CS.out _ hHd.2).mono ?_; rintro e w3 ⟨rfl, kk⟩)); (try dsimp only); refine hK.out _ _ ?_ (fun hHd => ?_); (focus ((try dsimp only); (first | with_reducible assumption | with_reducible exact held_next (by assumption) (by assumption) | with_reducible exact held_alloc (by assumption) _))); clear hK K; (try simp only [Act.put, s1, s2, s3]))
      (refine takeH (i := 9) (oi := ?o41) (v := ?v41) ?h41 (by kernel_rfl) ?q41 (Or.inl ⟨?w41, ?y41⟩) (by assumption) ?r41; (case h41 => ((simp only [g1, g2, g3]); rfl)); (case q41 => exact fun _ _ _ h => h); (case w41 => rfl); (case y41 => (intro w' hSw; (try dsimp only at hSw); go_simp; (try with_reducible rfl))); (try simp only [Act.put, s1, s2, s3]))
      refine wpAnyH_done (by kernel_rfl) ?_ _
      go_wp2_with fail
      go_roundw
      case rel => exact ⟨k + 1, by omega, by go_num, (by (repeat (first | with_reducible assumption | with_reducible exact Kp.refl _ | with_reducible refine Kp.drew ?_ | with_reducible refine Kp.drewN ?_ _ | with_reducible refine Kp.alloc ?_ _ | ((with_reducible refine Kp.setCell ?_ ?_ _); rotate_left; (focus (first | omega | (simp; done) | (simp; omega)))) | with_reducible refine Kp.trans ?_ (by assumption))))⟩
      case measure => simp [intOf]; omega
    · obtain rfl : k = n := by omega
      have j1 : decide ((k : Int) < (k : Int)) = false := decide_eq_false (by omega)
      go_wp2_with fail
      (try go_ret)
      exact ⟨rfl, xk⟩
end Go.Proofs.YtaekeogaakogbaaGreatDoor
namespace Go.Proofs.YtaekeogaakogbaaGreatDoor

open Go.ChangeShapes Go.WideShapes Go.ChangeAt Go.RowKit Go.Shelf

theorem JobI.get (x : JobI) (hg : x.g.length = 18) (k : Nat) (hk : k < 4) : x.L[18 + k]? = [Value.bool x.bal, .slice x.its.a x.its.len x.its.cap, .slice x.nts.a x.nts.len x.nts.cap, .slice x.fls.a x.fls.len x.fls.cap][k]? := by
  unfold JobI.L jobL
  rw [List.getElem?_append_right (by rw [intsG_len, hg]; omega), intsG_len, hg, Nat.add_sub_cancel_left]
theorem JobI.geo {w : World} {x : JobI} {B : Nat} {t : TypeId} (h : Blk w B x.L t) : w.rangeAt B 0 (geoL x.g x.bal) := fun j v hv => by
  rw [Nat.zero_add]
  refine h.cell j ?_
  have e : x.L = geoL x.g x.bal ++ [.slice x.its.a x.its.len x.its.cap, .slice x.nts.a x.nts.len x.nts.cap, .slice x.fls.a x.fls.len x.fls.cap] := by unfold JobI.L jobL geoL; simp
  rw [e, List.getElem?_append_left (List.getElem?_eq_some_iff.1 hv).1]
  exact hv
set_option maxRecDepth 100000 in
set_option maxHeartbeats 8000000 in
theorem same14_any (x y : JobI) (w : World) (h1 : x.good w) (h2 : y.good w) (he : x.d = y.d) :
    Calls Tryz.prog 8 #[.agg x.L.toArray, .agg y.L.toArray] w fun e w' => e = .returned (.bool true) ∧ Kp w w' := by
  obtain ⟨X, hX⟩ : ∃ X, x.L = X := ⟨_, rfl⟩
  obtain ⟨Y, hY⟩ : ∃ Y, y.L = Y := ⟨_, rfl⟩
  have hd : x.g = y.g ∧ x.bal = y.bal ∧ x.its.l = y.its.l ∧ x.nts.l.map Nt.d = y.nts.l.map Nt.d ∧ x.fls.l = y.fls.l := by
    simp only [JobI.d, JobD.mk.injEq] at he; exact he
  obtain ⟨e1, e2, e3, e4, e5⟩ := hd
  have hil : x.its.len = y.its.len := by rw [← h1.its.1, ← h2.its.1, e3]
  have X19 := Lib.hid (x.get h1.len 1 (by omega))
  have X20 := Lib.hid (x.get h1.len 2 (by omega))
  have X21 := Lib.hid (x.get h1.len 3 (by omega))
  have Y19 := Lib.hid (y.get h2.len 1 (by omega))
  have Y20 := Lib.hid (y.get h2.len 2 (by omega))
  have Y21 := Lib.hid (y.get h2.len 3 (by omega))
  have GX : Hid (∀ (w : World) (B : Nat) (t : TypeId), Blk w B X t → w.rangeAt B 0 (geoL x.g x.bal)) := Lib.hid fun w B t h => JobI.geo (x := x) (t := t) (by rw [hX]; exact h)
  have GY : Hid (∀ (w : World) (B : Nat) (t : TypeId), Blk w B Y t → w.rangeAt B 0 (geoL x.g x.bal)) := Lib.hid fun w B t h => by
    have := JobI.geo (x := y) (w := w) (B := B) (t := t) (by rw [hY]; exact h)
    rw [← e1, ← e2] at this; exact this
  have CA := Lib.hid (fun w' (k : Kp w w') => all11_any x.nts y.nts w' (h1.nts.kp k) (h2.nts.kp k) (fun z hz => (h1.nok z hz).kp k) (fun z hz => (h2.nok z hz).kp k) e4)
  have CF := Lib.hid (fun w' (k : Kp w w') => same12_any x.fls y.fls w' (h1.fls.kp k) (h2.fls.kp k) e5)
  have H1 := Lib.hid h1.its
  have H2 := Lib.hid h2.its
  have hc1 := h1.its.2.1
  have hm1 := h1.its.2.2.1
  have hc2 := h2.its.2.1
  have hm2 := h2.its.2.2.1
  unfold maxLen at hm1 hm2
  have eI := @eqItm
  have HG := Lib.hid (geoL_len (b := x.bal) h1.len)
  obtain ⟨G, hG⟩ : ∃ G, geoL x.g x.bal = G := ⟨_, rfl⟩
  have eG := fun d w => eqGeo (b := x.bal) h1.len d w
  rw [hG] at eG GX GY HG
  rw [hX] at X19 X20 X21 ⊢
  rw [hY] at Y19 Y20 Y21 ⊢
  rw [← e3] at H2
  obtain ⟨p1, b1, ⟨a1, n, c1, l⟩, ⟨na1, nn1, nc1, nl1⟩, ⟨fa1, fn1, fc1, fl1⟩⟩ := x
  obtain ⟨p2, b2, ⟨a2, n2, c2, l2⟩, ⟨na2, nn2, nc2, nl2⟩, ⟨fa2, fn2, fc2, fl2⟩⟩ := y
  simp only at hil H1 H2 hc1 hm1 hc2 hm2 CA CF X19 X20 X21 Y19 Y20 Y21
  subst hil
  clear h1 h2 he hX hY e1 e2 e3 e4 e5 hG
  go_enter Tryz.func8, Tryz.ntmps8
  go_wp2_with (first
    | (refine boxRowW (vs := X) rfl (.tmp 0) rfl rfl ?_; intro w1 hA hoth hkp hlt; have kw1 : Kp w w1 := hkp (Kp.refl w); clear hoth hkp)
    | (refine boxRowW (vs := Y) rfl (.tmp 1) rfl rfl ?_; intro w2 hB hoth hkp hlt2; have hA2 := hoth hA; have kw2 : Kp w w2 := hkp kw1; have cA := hA2.cell 19 (X19.out.trans rfl); have cB := hB.cell 19 (Y19.out.trans rfl); have hAl := hA2.lt; have hBl := hB.lt; clear hoth hkp hA))
  have HA := Lib.hid hA2
  have HB := Lib.hid hB
  clear hA2 hB
  go_loopw [5] (fun v5 wr => ∃ k : Nat, k ≤ n ∧ v5 = .int .i64 k ∧ Kp w2 wr) (fun v5 _ => n - (intOf v5).toNat)
  case atStart => exact ⟨0, Nat.zero_le _, rfl, (by (repeat (first | with_reducible assumption | with_reducible exact Kp.refl _ | with_reducible refine Kp.drew ?_ | with_reducible refine Kp.drewN ?_ _ | with_reducible refine Kp.alloc ?_ _ | ((with_reducible refine Kp.setCell ?_ ?_ _); rotate_left; (focus (first | omega | (simp; done) | (simp; omega)))) | with_reducible refine Kp.trans ?_ (by assumption))))⟩
  case round =>
    obtain ⟨k, hk, rfl, xk⟩ := hrel
    have xk0 := kw2.trans xk
    have zA := (HA.out.kp xk).cell 19 (X19.out.trans rfl)
    have zB := (HB.out.kp xk).cell 19 (Y19.out.trans rfl)
    have hAl' := Nat.lt_of_lt_of_le hAl xk.size
    have hBl' := Nat.lt_of_lt_of_le hBl xk.size
    clear cA cB
    by_cases hlt : k < n
    · obtain ⟨ga, oa, ⟨x0, x1, x2, x3, x4, x5, x6⟩, rfl, hga, hx, r1⟩ := (H1.out.kp xk0).at hlt
      obtain ⟨gb, ob, y, rfl, hgb, hy, r2⟩ := (H2.out.kp xk0).at hlt
      obtain rfl := Option.some.inj (hx.symm.trans hy)
      have d0 := r1 0 _ rfl; have d1 := r1 1 _ rfl; have d2 := r1 2 _ rfl; have d3 := r1 3 _ rfl; have d4 := r1 4 _ rfl; have d5 := r1 5 _ rfl; have d6 := r1 6 _ rfl
      have f0 := r2 0 _ rfl; have f1 := r2 1 _ rfl; have f2 := r2 2 _ rfl; have f3 := r2 3 _ rfl; have f4 := r2 4 _ rfl; have f5 := r2 5 _ rfl; have f6 := r2 6 _ rfl
      simp only [Nat.add_zero] at d0 d1 d2 d3 d4 d5 d6 f0 f1 f2 f3 f4 f5 f6
      have j1 : decide ((k : Int) < (n : Int)) = true := decide_eq_true (by omega)
      have hc1' : k < c1 := by omega
      have hc2' : k < c2 := by omega
      clear r1 r2 hx hy
      go_wp2_with fail
      (refine wp_region_held_drew (S := (fun w' => (∀ b o, b < wr.heap.size → w'.cell? ⟨b, o, none⟩ = wr.cell? ⟨b, o, none⟩) ∧ Kp wr w')) (by kernel_rfl) ?_ (fun hHd => ?_); (focus ((try dsimp only); (first | with_reducible assumption | with_reducible exact held_start _ | with_reducible exact held_next (by assumption) (by assumption) | with_reducible exact held_alloc (by assumption) _ | with_reducible exact held_drew (by assumption) | ((with_reducible refine held_kp ?_); (repeat (first | with_reducible assumption | with_reducible exact Kp.refl _ | with_reducible refine Kp.drew ?_ | with_reducible refine Kp.drewN ?_ _ | with_reducible refine Kp.alloc ?_ _ | ((with_reducible refine Kp.setCell ?_ ?_ _); rotate_left; (focus (first | omega | (simp; done) | (simp; omega)))) | with_reducible refine Kp.trans ?_ (by assumption))))))))
      (refine takeH (i := 0) (oi := ?o11) (v := ?v11) ?h11 (by kernel_rfl) ?q11 (Or.inl ⟨?w11, ?y11⟩) (by assumption) ?r11; (case h11 => ((simp only [g1, g3]); rfl)); (case q11 => exact fun _ _ _ h => h); (case w11 => rfl); (case y11 => (intro w' hSw; (try dsimp only at hSw); go_simp; (try with_reducible rfl))); (try simp only [Act.put, s1, s2, s3]))
      (refine takeH (i := 1) (oi := ?o12) (v := ?v12) ?h12 (by kernel_rfl) ?q12 (Or.inl ⟨?w12, ?y12⟩) (by assumption) ?r12; (case h12 => ((simp only [g1, g2, g3]); rfl)); (case q12 => exact fun _ _ _ h => h); (case w12 => rfl); (case y12 => (intro w' hSw; (try dsimp only at hSw); go_simp; (try with_reducible rfl))); (try simp only [Act.put, s1, s2, s3]))
      (refine takeH (i := 2) (oi := ?o13) (v := ?v13) ?h13 (by kernel_rfl) ?q13 (Or.inl ⟨?w13, ?y13⟩) (by assumption) ?r13; (case h13 => ((simp only [g1, g2, g3]); rfl)); (case q13 => exact fun _ _ _ h => h); (case w13 => rfl); (case y13 => (intro w' hSw; (try dsimp only at hSw); go_simp; (try with_reducible rfl))); (try simp only [Act.put, s1, s2, s3]))
      (refine takeH (i := 3) (oi := ?o14) (v := ?v14) ?h14 (by kernel_rfl) ?q14 (Or.inl ⟨?w14, ?y14⟩) (by assumption) ?r14; (case h14 => ((simp only [g1, g2, g3]); rfl)); (case q14 => exact fun _ _ _ h => h); (case w14 => rfl); (case y14 => (intro w' hSw; (try dsimp only at hSw); go_simp; (try with_reducible rfl))); (try simp only [Act.put, s1, s2, s3]))
      (refine takeH (i := 4) (oi := ?o15) (v := ?v15) ?h15 (by kernel_rfl) ?q15 (Or.inl ⟨?w15, ?y15⟩) (by assumption) ?r15; (case h15 => ((simp only [g1, g2, g3]); rfl)); (case q15 => exact fun _ _ _ h => h); (case w15 => rfl); (case y15 => (intro w' hSw; (try dsimp only at hSw); go_simp; (try with_reducible rfl))); (try simp only [Act.put, s1, s2, s3]))
      (refine takeH (i := 5) (oi := ?o16) (v := ?v16) ?h16 (by kernel_rfl) ?q16 (Or.inl ⟨?w16, ?y16⟩) (by assumption) ?r16; (case h16 => ((simp only [g1, g2, g3]); rfl)); (case q16 => exact fun _ _ _ h => h); (case w16 => rfl); (case y16 => (intro w' hSw; (try dsimp only at hSw); go_simp; (try with_reducible rfl))); (try simp only [Act.put, s1, s2, s3]))
      (refine takeH (i := 6) (oi := ?o17) (v := ?v17) ?h17 (by kernel_rfl) ?q17 (Or.inl ⟨?w17, ?y17⟩) (by assumption) ?r17; (case h17 => ((simp only [g1, g2, g3]); rfl)); (case q17 => exact fun _ _ _ h => h); (case w17 => rfl); (case y17 => (intro w' hSw; (try dsimp only at hSw); go_simp; (try with_reducible rfl))); (try simp only [Act.put, s1, s2, s3]))
      (refine takeH (i := 7) (oi := ?o18) (v := ?v18) ?h18 (by kernel_rfl) ?q18 (Or.inl ⟨?w18, ?y18⟩) (by assumption) ?r18; (case h18 => ((simp only [g1, g2, g3]); rfl)); (case q18 => exact fun _ _ _ h => h); (case w18 => rfl); (case y18 => (intro w' hSw; (try dsimp only at hSw); go_simp; (try with_reducible rfl))); (try simp only [Act.put, s1, s2, s3]))
      (refine takeH (i := 8) (oi := ?o19) (v := ?v19) ?h19 (by kernel_rfl) ?q19 (Or.inl ⟨?w19, ?y19⟩) (by assumption) ?r19; (case h19 => ((simp only [g1, g2, g3]); rfl)); (case q19 => exact fun _ _ _ h => h); (case w19 => rfl); (case y19 => (intro w' hSw; (try dsimp only at hSw); go_simp; (try with_reducible rfl))); (try simp only [Act.put, s1, s2, s3]))
      (refine takeH (i := 9) (oi := ?o20) (v := ?v20) ?h20 (by kernel_rfl) ?q20 (Or.inl ⟨?w20, ?y20⟩) (by assumption) ?r20; (case h20 => ((simp only [g1, g2, g3]); rfl)); (case q20 => exact fun _ _ _ h => h); (case w20 => rfl); (case y20 => (intro w' hSw; (try dsimp only at hSw); go_simp; (try with_reducible rfl))); (try simp only [Act.put, s1, s2, s3]))
      (refine takeH (i := 10) (oi := ?o21) (v := ?v21) ?h21 (by kernel_rfl) ?q21 (Or.inl ⟨?w21, ?y21⟩) (by assumption) ?r21; (case h21 => ((simp only [g1, g2, g3]); rfl)); (case q21 => exact fun _ _ _ h => h); (case w21 => rfl); (case y21 => (intro w' hSw; (try dsimp only at hSw); go_simp; (try with_reducible rfl))); (try simp only [Act.put, s1, s2, s3]))
      refine wpAnyH_done (by kernel_rfl) ?_ _
      go_wp2_with fail
      go_roundw
      case rel => exact ⟨k + 1, by omega, by go_num, (by (repeat (first | with_reducible assumption | with_reducible exact Kp.refl _ | with_reducible refine Kp.drew ?_ | with_reducible refine Kp.drewN ?_ _ | with_reducible refine Kp.alloc ?_ _ | ((with_reducible refine Kp.setCell ?_ ?_ _); rotate_left; (focus (first | omega | (simp; done) | (simp; omega)))) | with_reducible refine Kp.trans ?_ (by assumption))))⟩
      case measure => simp [intOf]; omega
    · obtain rfl : k = n := by omega
      have j1 : decide ((k : Int) < (k : Int)) = false := decide_eq_false (by omega)
      have yA := (HA.out.kp xk).cell 20 (X20.out.trans rfl)
      have yB := (HB.out.kp xk).cell 20 (Y20.out.trans rfl)
      have rA := Lib.hid (GX.out _ _ _ (HA.out.kp xk))
      have rB := Lib.hid (GY.out _ _ _ (HB.out.kp xk))
      go_wp2_with (first
        | (refine ldRowAt rowGeom rfl (.tmp 31) rfl (vs := G) rA.out HG.out rfl ?_)
        | (refine ldRowAt rowGeom rfl (.tmp 33) rfl (vs := G) rB.out HG.out rfl ?_)
        | (go_at_call 14; refine (CA.out _ (xk0.trans (show Kp wr _ from (by (repeat (first | with_reducible assumption | with_reducible exact Kp.refl _ | with_reducible refine Kp.drew ?_ | with_reducible refine Kp.drewN ?_ _ | with_reducible refine Kp.alloc ?_ _ | ((with_reducible refine Kp.setCell ?_ ?_ _); rotate_left; (focus (first | omega | (simp; done) | (simp; omega)))) | with_reducible refine Kp.trans ?_ (by assumption))))))).mono ?_; rintro e w4 ⟨rfl, k4⟩; have k24 : Kp w2 w4 := xk.trans ((show Kp wr _ from (by (repeat (first | with_reducible assumption | with_reducible exact Kp.refl _ | with_reducible refine Kp.drew ?_ | with_reducible refine Kp.drewN ?_ _ | with_reducible refine Kp.alloc ?_ _ | ((with_reducible refine Kp.setCell ?_ ?_ _); rotate_left; (focus (first | omega | (simp; done) | (simp; omega)))) | with_reducible refine Kp.trans ?_ (by assumption))))).trans k4); have vA := (HA.out.kp k24).cell 21 (X21.out.trans rfl); have vB := (HB.out.kp k24).cell 21 (Y21.out.trans rfl))
        | (go_at_call 15; refine (CF.out _ (kw2.trans (k24.trans (show Kp w4 _ from (by (repeat (first | with_reducible assumption | with_reducible exact Kp.refl _ | with_reducible refine Kp.drew ?_ | with_reducible refine Kp.drewN ?_ _ | with_reducible refine Kp.alloc ?_ _ | ((with_reducible refine Kp.setCell ?_ ?_ _); rotate_left; (focus (first | omega | (simp; done) | (simp; omega)))) | with_reducible refine Kp.trans ?_ (by assumption)))))))).mono ?_; rintro e w5 ⟨rfl, k5⟩))
      (try go_ret)
      exact ⟨rfl, kw2.trans (k24.trans ((show Kp w4 _ from (by (repeat (first | with_reducible assumption | with_reducible exact Kp.refl _ | with_reducible refine Kp.drew ?_ | with_reducible refine Kp.drewN ?_ _ | with_reducible refine Kp.alloc ?_ _ | ((with_reducible refine Kp.setCell ?_ ?_ _); rotate_left; (focus (first | omega | (simp; done) | (simp; omega)))) | with_reducible refine Kp.trans ?_ (by assumption))))).trans k5))⟩
end Go.Proofs.YtaekeogaakogbaaGreatDoor
namespace Go.Proofs.YtaekeogaakogbaaGreatDoor

open Go.ChangeShapes Go.WideShapes Go.ChangeAt Go.RowKit Go.Shelf

set_option maxHeartbeats 1000000 in
theorem eqItem (d : Nat) (w : World) (a0 a1 a2 a3 a4 a5 a6 b0 b1 b2 b3 b4 b5 b6 : Int) :
    (Op.equalIn (d + 2) 43 (.agg #[.int .i64 a0, .int .i64 a1, .int .i64 a2, .int .i64 a3, .int .i64 a4, .int .i64 a5, .int .i64 a6]) (.agg #[.int .i64 b0, .int .i64 b1, .int .i64 b2, .int .i64 b3, .int .i64 b4, .int .i64 b5, .int .i64 b6])).run Tryz.prog w = .ok (a0 == b0 && (a1 == b1 && (a2 == b2 && (a3 == b3 && (a4 == b4 && (a5 == b5 && a6 == b6)))))) w := by
  have hu := Tryz.underlying43
  go_simp
  by_cases h0 : a0 = b0 <;> by_cases h1 : a1 = b1 <;> by_cases h2 : a2 = b2 <;> by_cases h3 : a3 = b3 <;> by_cases h4 : a4 = b4 <;> by_cases h5 : a5 = b5 <;> by_cases h6 : a6 = b6 <;> simp_all
/-- An item has no field but its own. -/
def bareI (x : Itm) : Bool :=
  if x.k = 1 then (x.s == 0 && (x.o == 0 && (x.r == 0 && x.n == 0)))
  else if x.k = 2 then (x.f == 0 && x.n == 0)
  else if x.k = 3 ∨ x.k = 4 ∨ x.k = 5 ∨ x.k = 6 then (x.h == 0 && (x.f == 0 && (x.s == 0 && (x.o == 0 && x.r == 0))))
  else if x.k = 7 then (x.h == 0 && (x.f == 0 && (x.s == 0 && (x.o == 0 && (x.r == 0 && x.n == 0)))))
  else false
set_option maxRecDepth 100000 in
set_option maxHeartbeats 8000000 in
theorem bare_any (k h f s o r n : Int) (w : World) : Calls Tryz.prog 31 #[.agg #[.int .i64 k, .int .i64 h, .int .i64 f, .int .i64 s, .int .i64 o, .int .i64 r, .int .i64 n]] w fun e w' => e = .returned (.bool (bareI ⟨k, h, f, s, o, r, n⟩)) ∧ Kp w w' := by
  have eI := @eqItem
  by_cases h1 : k = 1
  · subst h1
    go_enter Tryz.func31, Tryz.ntmps31
    go_wp2_with fail
    refine named_world (F := fun w1 => Blk w1 w.heap.size [.int .i64 1, .int .i64 h, .int .i64 f, .int .i64 s, .int .i64 o, .int .i64 r, .int .i64 n] 43 ∧ Kp w w1) ⟨(by (repeat (first | with_reducible assumption | ((with_reducible refine Blk.newL ?_ ?_); (focus (first | (simp; done) | omega)); rfl) | with_reducible refine Blk.drew ?_ | with_reducible refine Blk.drewN ?_ _ | with_reducible refine Blk.alloc ?_ _ | ((with_reducible refine Blk.other ?_ ?_ _); rotate_left; (focus (first | with_reducible assumption | omega | (simp; done) | (simp; omega))))))), (by (repeat (first | with_reducible assumption | with_reducible exact Kp.refl _ | with_reducible refine Kp.drew ?_ | with_reducible refine Kp.drewN ?_ _ | with_reducible refine Kp.alloc ?_ _ | ((with_reducible refine Kp.setCell ?_ ?_ _); rotate_left; (focus (first | omega | (simp; done) | (simp; omega)))) | with_reducible refine Kp.trans ?_ (by assumption))))⟩ ?_
    rintro w1 ⟨hB, k1⟩
    have c0 := hB.cell 0 rfl; have c1 := hB.cell 1 rfl; have c2 := hB.cell 2 rfl; have c3 := hB.cell 3 rfl; have c4 := hB.cell 4 rfl; have c5 := hB.cell 5 rfl; have c6 := hB.cell 6 rfl
    have hl := hB.lt
    (refine wp_region_held_drew (S := (fun w' => (∀ b o, b < w1.heap.size → w'.cell? ⟨b, o, none⟩ = w1.cell? ⟨b, o, none⟩) ∧ Kp w1 w')) (by kernel_rfl) ?_ (fun hHd => ?_); (focus ((try dsimp only); (first | with_reducible assumption | with_reducible exact held_start _ | with_reducible exact held_next (by assumption) (by assumption) | with_reducible exact held_alloc (by assumption) _ | with_reducible exact held_drew (by assumption) | ((with_reducible refine held_kp ?_); (repeat (first | with_reducible assumption | with_reducible exact Kp.refl _ | with_reducible refine Kp.drew ?_ | with_reducible refine Kp.drewN ?_ _ | with_reducible refine Kp.alloc ?_ _ | ((with_reducible refine Kp.setCell ?_ ?_ _); rotate_left; (focus (first | omega | (simp; done) | (simp; omega)))) | with_reducible refine Kp.trans ?_ (by assumption))))))))
    (refine takeH (i := 0) (oi := ?o1) (v := ?v1) ?h1 (by kernel_rfl) ?q1 (Or.inl ⟨?w1, ?y1⟩) (by assumption) ?r1; (case h1 => ((simp only [g1, g3]); rfl)); (case q1 => exact fun _ _ _ h => h); (case w1 => rfl); (case y1 => (intro w' hSw; (try dsimp only at hSw); go_simp; (try with_reducible rfl))); (try simp only [Act.put, s1, s2, s3]))
    (refine takeH (i := 1) (oi := ?o2) (v := ?v2) ?h2 (by kernel_rfl) ?q2 (Or.inl ⟨?w2, ?y2⟩) (by assumption) ?r2; (case h2 => ((simp only [g1, g2, g3]); rfl)); (case q2 => exact fun _ _ _ h => h); (case w2 => rfl); (case y2 => (intro w' hSw; (try dsimp only at hSw); go_simp; (try with_reducible rfl))); (try simp only [Act.put, s1, s2, s3]))
    (refine takeH (i := 2) (oi := ?o3) (v := ?v3) ?h3 (by kernel_rfl) ?q3 (Or.inl ⟨?w3, ?y3⟩) (by assumption) ?r3; (case h3 => ((simp only [g1, g2, g3]); rfl)); (case q3 => exact fun _ _ _ h => h); (case w3 => rfl); (case y3 => (intro w' hSw; (try dsimp only at hSw); go_simp; (try with_reducible rfl))); (try simp only [Act.put, s1, s2, s3]))
    (refine takeH (i := 3) (oi := ?o4) (v := ?v4) ?h4 (by kernel_rfl) ?q4 (Or.inl ⟨?w4, ?y4⟩) (by assumption) ?r4; (case h4 => ((simp only [g1, g2, g3]); rfl)); (case q4 => exact fun _ _ _ h => h); (case w4 => rfl); (case y4 => (intro w' hSw; (try dsimp only at hSw); go_simp; (try with_reducible rfl))); (try simp only [Act.put, s1, s2, s3]))
    (refine takeH (i := 4) (oi := ?o5) (v := ?v5) ?h5 (by kernel_rfl) ?q5 (Or.inl ⟨?w5, ?y5⟩) (by assumption) ?r5; (case h5 => ((simp only [g1, g2, g3]); rfl)); (case q5 => exact fun _ _ _ h => h); (case w5 => rfl); (case y5 => (intro w' hSw; (try dsimp only at hSw); go_simp; (try with_reducible rfl))); (try simp only [Act.put, s1, s2, s3]))
    (refine wpAnyH_ready (rs := [5]) (by kernel_rfl) (by simp) ?_; refine AllReadyH.cons (o := ?o6) ?h6 (fun K hK => ?s6) AllReadyH.nil; (case h6 => (first | ((simp only [g1, g2, g3]); rfl) | rfl)); go_simp; (first | (go_at_call 71; refine (mkBox_any _ _ _).mono ?_; rintro e w2 ⟨rfl, kk⟩)); (try dsimp only); refine hK.out _ _ ?_ (fun hHd => ?_); (focus ((try dsimp only); (first | with_reducible assumption | with_reducible exact held_next (by assumption) (by assumption) | with_reducible exact held_alloc (by assumption) _))); clear hK K; (try simp only [Act.put, s1, s2, s3]))
    (refine takeH (i := 6) (oi := ?o7) (v := ?v7) ?h7 (by kernel_rfl) ?q7 (Or.inl ⟨?w7, ?y7⟩) (by assumption) ?r7; (case h7 => ((simp only [g1, g2, g3]); rfl)); (case q7 => exact fun _ _ _ h => h); (case w7 => rfl); (case y7 => (intro w' hSw; (try dsimp only at hSw); go_simp; (try with_reducible rfl))); (try simp only [Act.put, s1, s2, s3]))
    (refine takeH (i := 7) (oi := ?o8) (v := ?v8) ?h8 (by kernel_rfl) ?q8 (Or.inl ⟨?w8, ?y8⟩) (by assumption) ?r8; (case h8 => ((simp only [g1, g2, g3]); rfl)); (case q8 => exact fun _ _ _ h => h); (case w8 => rfl); (case y8 => (intro w' hSw; (try dsimp only at hSw); go_simp; (try with_reducible rfl))); (try simp only [Act.put, s1, s2, s3]))
    refine wpAnyH_done (by kernel_rfl) ?_ _
    all_goals
      go_wp2_with fail
      (try go_ret)
      exact ⟨by simp [bareI], (by (repeat (first | with_reducible assumption | with_reducible exact Kp.refl _ | with_reducible refine Kp.drew ?_ | with_reducible refine Kp.drewN ?_ _ | with_reducible refine Kp.alloc ?_ _ | ((with_reducible refine Kp.setCell ?_ ?_ _); rotate_left; (focus (first | omega | (simp; done) | (simp; omega)))) | with_reducible refine Kp.trans ?_ (by assumption))))⟩
  · by_cases h2 : k = 2
    · subst h2
      go_enter Tryz.func31, Tryz.ntmps31
      go_wp2_with fail
      refine named_world (F := fun w1 => Blk w1 w.heap.size [.int .i64 2, .int .i64 h, .int .i64 f, .int .i64 s, .int .i64 o, .int .i64 r, .int .i64 n] 43 ∧ Kp w w1) ⟨(by (repeat (first | with_reducible assumption | ((with_reducible refine Blk.newL ?_ ?_); (focus (first | (simp; done) | omega)); rfl) | with_reducible refine Blk.drew ?_ | with_reducible refine Blk.drewN ?_ _ | with_reducible refine Blk.alloc ?_ _ | ((with_reducible refine Blk.other ?_ ?_ _); rotate_left; (focus (first | with_reducible assumption | omega | (simp; done) | (simp; omega))))))), (by (repeat (first | with_reducible assumption | with_reducible exact Kp.refl _ | with_reducible refine Kp.drew ?_ | with_reducible refine Kp.drewN ?_ _ | with_reducible refine Kp.alloc ?_ _ | ((with_reducible refine Kp.setCell ?_ ?_ _); rotate_left; (focus (first | omega | (simp; done) | (simp; omega)))) | with_reducible refine Kp.trans ?_ (by assumption))))⟩ ?_
      rintro w1 ⟨hB, k1⟩
      have c0 := hB.cell 0 rfl; have c1 := hB.cell 1 rfl; have c2 := hB.cell 2 rfl; have c3 := hB.cell 3 rfl; have c4 := hB.cell 4 rfl; have c5 := hB.cell 5 rfl; have c6 := hB.cell 6 rfl
      have hl := hB.lt
      (refine wp_region_held_drew (S := (fun w' => (∀ b o, b < w1.heap.size → w'.cell? ⟨b, o, none⟩ = w1.cell? ⟨b, o, none⟩) ∧ Kp w1 w')) (by kernel_rfl) ?_ (fun hHd => ?_); (focus ((try dsimp only); (first | with_reducible assumption | with_reducible exact held_start _ | with_reducible exact held_next (by assumption) (by assumption) | with_reducible exact held_alloc (by assumption) _ | with_reducible exact held_drew (by assumption) | ((with_reducible refine held_kp ?_); (repeat (first | with_reducible assumption | with_reducible exact Kp.refl _ | with_reducible refine Kp.drew ?_ | with_reducible refine Kp.drewN ?_ _ | with_reducible refine Kp.alloc ?_ _ | ((with_reducible refine Kp.setCell ?_ ?_ _); rotate_left; (focus (first | omega | (simp; done) | (simp; omega)))) | with_reducible refine Kp.trans ?_ (by assumption))))))))
      (refine takeH (i := 0) (oi := ?o9) (v := ?v9) ?h9 (by kernel_rfl) ?q9 (Or.inl ⟨?w9, ?y9⟩) (by assumption) ?r9; (case h9 => ((simp only [g1, g3]); rfl)); (case q9 => exact fun _ _ _ h => h); (case w9 => rfl); (case y9 => (intro w' hSw; (try dsimp only at hSw); go_simp; (try with_reducible rfl))); (try simp only [Act.put, s1, s2, s3]))
      (refine takeH (i := 1) (oi := ?o10) (v := ?v10) ?h10 (by kernel_rfl) ?q10 (Or.inl ⟨?w10, ?y10⟩) (by assumption) ?r10; (case h10 => ((simp only [g1, g2, g3]); rfl)); (case q10 => exact fun _ _ _ h => h); (case w10 => rfl); (case y10 => (intro w' hSw; (try dsimp only at hSw); go_simp; (try with_reducible rfl))); (try simp only [Act.put, s1, s2, s3]))
      (refine takeH (i := 2) (oi := ?o11) (v := ?v11) ?h11 (by kernel_rfl) ?q11 (Or.inl ⟨?w11, ?y11⟩) (by assumption) ?r11; (case h11 => ((simp only [g1, g2, g3]); rfl)); (case q11 => exact fun _ _ _ h => h); (case w11 => rfl); (case y11 => (intro w' hSw; (try dsimp only at hSw); go_simp; (try with_reducible rfl))); (try simp only [Act.put, s1, s2, s3]))
      (refine takeH (i := 3) (oi := ?o12) (v := ?v12) ?h12 (by kernel_rfl) ?q12 (Or.inl ⟨?w12, ?y12⟩) (by assumption) ?r12; (case h12 => ((simp only [g1, g2, g3]); rfl)); (case q12 => exact fun _ _ _ h => h); (case w12 => rfl); (case y12 => (intro w' hSw; (try dsimp only at hSw); go_simp; (try with_reducible rfl))); (try simp only [Act.put, s1, s2, s3]))
      (refine takeH (i := 4) (oi := ?o13) (v := ?v13) ?h13 (by kernel_rfl) ?q13 (Or.inl ⟨?w13, ?y13⟩) (by assumption) ?r13; (case h13 => ((simp only [g1, g2, g3]); rfl)); (case q13 => exact fun _ _ _ h => h); (case w13 => rfl); (case y13 => (intro w' hSw; (try dsimp only at hSw); go_simp; (try with_reducible rfl))); (try simp only [Act.put, s1, s2, s3]))
      (refine takeH (i := 5) (oi := ?o14) (v := ?v14) ?h14 (by kernel_rfl) ?q14 (Or.inl ⟨?w14, ?y14⟩) (by assumption) ?r14; (case h14 => ((simp only [g1, g2, g3]); rfl)); (case q14 => exact fun _ _ _ h => h); (case w14 => rfl); (case y14 => (intro w' hSw; (try dsimp only at hSw); go_simp; (try with_reducible rfl))); (try simp only [Act.put, s1, s2, s3]))
      (refine takeH (i := 6) (oi := ?o15) (v := ?v15) ?h15 (by kernel_rfl) ?q15 (Or.inl ⟨?w15, ?y15⟩) (by assumption) ?r15; (case h15 => ((simp only [g1, g2, g3]); rfl)); (case q15 => exact fun _ _ _ h => h); (case w15 => rfl); (case y15 => (intro w' hSw; (try dsimp only at hSw); go_simp; (try with_reducible rfl))); (try simp only [Act.put, s1, s2, s3]))
      (refine takeH (i := 7) (oi := ?o16) (v := ?v16) ?h16 (by kernel_rfl) ?q16 (Or.inl ⟨?w16, ?y16⟩) (by assumption) ?r16; (case h16 => ((simp only [g1, g2, g3]); rfl)); (case q16 => exact fun _ _ _ h => h); (case w16 => rfl); (case y16 => (intro w' hSw; (try dsimp only at hSw); go_simp; (try with_reducible rfl))); (try simp only [Act.put, s1, s2, s3]))
      (refine takeH (i := 8) (oi := ?o17) (v := ?v17) ?h17 (by kernel_rfl) ?q17 (Or.inl ⟨?w17, ?y17⟩) (by assumption) ?r17; (case h17 => ((simp only [g1, g2, g3]); rfl)); (case q17 => exact fun _ _ _ h => h); (case w17 => rfl); (case y17 => (intro w' hSw; (try dsimp only at hSw); go_simp; (try with_reducible rfl))); (try simp only [Act.put, s1, s2, s3]))
      (refine wpAnyH_ready (rs := [9]) (by kernel_rfl) (by simp) ?_; refine AllReadyH.cons (o := ?o18) ?h18 (fun K hK => ?s18) AllReadyH.nil; (case h18 => (first | ((simp only [g1, g2, g3]); rfl) | rfl)); go_simp; (first | (go_at_call 72; refine (mkGlue_any _ _ _ _ _).mono ?_; rintro e w2 ⟨rfl, kk⟩)); (try dsimp only); refine hK.out _ _ ?_ (fun hHd => ?_); (focus ((try dsimp only); (first | with_reducible assumption | with_reducible exact held_next (by assumption) (by assumption) | with_reducible exact held_alloc (by assumption) _))); clear hK K; (try simp only [Act.put, s1, s2, s3]))
      (refine takeH (i := 10) (oi := ?o19) (v := ?v19) ?h19 (by kernel_rfl) ?q19 (Or.inl ⟨?w19, ?y19⟩) (by assumption) ?r19; (case h19 => ((simp only [g1, g2, g3]); rfl)); (case q19 => exact fun _ _ _ h => h); (case w19 => rfl); (case y19 => (intro w' hSw; (try dsimp only at hSw); go_simp; (try with_reducible rfl))); (try simp only [Act.put, s1, s2, s3]))
      (refine takeH (i := 11) (oi := ?o20) (v := ?v20) ?h20 (by kernel_rfl) ?q20 (Or.inl ⟨?w20, ?y20⟩) (by assumption) ?r20; (case h20 => ((simp only [g1, g2, g3]); rfl)); (case q20 => exact fun _ _ _ h => h); (case w20 => rfl); (case y20 => (intro w' hSw; (try dsimp only at hSw); go_simp; (try with_reducible rfl))); (try simp only [Act.put, s1, s2, s3]))
      refine wpAnyH_done (by kernel_rfl) ?_ _
      all_goals
        go_wp2_with fail
        (try go_ret)
        exact ⟨by simp [bareI], (by (repeat (first | with_reducible assumption | with_reducible exact Kp.refl _ | with_reducible refine Kp.drew ?_ | with_reducible refine Kp.drewN ?_ _ | with_reducible refine Kp.alloc ?_ _ | ((with_reducible refine Kp.setCell ?_ ?_ _); rotate_left; (focus (first | omega | (simp; done) | (simp; omega)))) | with_reducible refine Kp.trans ?_ (by assumption))))⟩
    · by_cases h7 : k = 7
      · subst h7
        go_enter Tryz.func31, Tryz.ntmps31
        go_wp2_with fail
        refine named_world (F := fun w1 => Blk w1 w.heap.size [.int .i64 7, .int .i64 h, .int .i64 f, .int .i64 s, .int .i64 o, .int .i64 r, .int .i64 n] 43 ∧ Kp w w1) ⟨(by (repeat (first | with_reducible assumption | ((with_reducible refine Blk.newL ?_ ?_); (focus (first | (simp; done) | omega)); rfl) | with_reducible refine Blk.drew ?_ | with_reducible refine Blk.drewN ?_ _ | with_reducible refine Blk.alloc ?_ _ | ((with_reducible refine Blk.other ?_ ?_ _); rotate_left; (focus (first | with_reducible assumption | omega | (simp; done) | (simp; omega))))))), (by (repeat (first | with_reducible assumption | with_reducible exact Kp.refl _ | with_reducible refine Kp.drew ?_ | with_reducible refine Kp.drewN ?_ _ | with_reducible refine Kp.alloc ?_ _ | ((with_reducible refine Kp.setCell ?_ ?_ _); rotate_left; (focus (first | omega | (simp; done) | (simp; omega)))) | with_reducible refine Kp.trans ?_ (by assumption))))⟩ ?_
        rintro w1 ⟨hB, k1⟩
        have c0 := hB.cell 0 rfl; have c1 := hB.cell 1 rfl; have c2 := hB.cell 2 rfl; have c3 := hB.cell 3 rfl; have c4 := hB.cell 4 rfl; have c5 := hB.cell 5 rfl; have c6 := hB.cell 6 rfl
        have hl := hB.lt
        (refine wp_region_held_drew (S := (fun w' => (∀ b o, b < w1.heap.size → w'.cell? ⟨b, o, none⟩ = w1.cell? ⟨b, o, none⟩) ∧ Kp w1 w')) (by kernel_rfl) ?_ (fun hHd => ?_); (focus ((try dsimp only); (first | with_reducible assumption | with_reducible exact held_start _ | with_reducible exact held_next (by assumption) (by assumption) | with_reducible exact held_alloc (by assumption) _ | with_reducible exact held_drew (by assumption) | ((with_reducible refine held_kp ?_); (repeat (first | with_reducible assumption | with_reducible exact Kp.refl _ | with_reducible refine Kp.drew ?_ | with_reducible refine Kp.drewN ?_ _ | with_reducible refine Kp.alloc ?_ _ | ((with_reducible refine Kp.setCell ?_ ?_ _); rotate_left; (focus (first | omega | (simp; done) | (simp; omega)))) | with_reducible refine Kp.trans ?_ (by assumption))))))))
        (refine takeH (i := 0) (oi := ?o21) (v := ?v21) ?h21 (by kernel_rfl) ?q21 (Or.inl ⟨?w21, ?y21⟩) (by assumption) ?r21; (case h21 => ((simp only [g1, g3]); rfl)); (case q21 => exact fun _ _ _ h => h); (case w21 => rfl); (case y21 => (intro w' hSw; (try dsimp only at hSw); go_simp; (try with_reducible rfl))); (try simp only [Act.put, s1, s2, s3]))
        (refine wpAnyH_ready (rs := [1]) (by kernel_rfl) (by simp) ?_; refine AllReadyH.cons (o := ?o22) ?h22 (fun K hK => ?s22) AllReadyH.nil; (case h22 => (first | ((simp only [g1, g2, g3]); rfl) | rfl)); go_simp; (first | (go_at_call 73; refine (mkBarrier_any _).mono ?_; rintro e w2 ⟨rfl, kk⟩)); (try dsimp only); refine hK.out _ _ ?_ (fun hHd => ?_); (focus ((try dsimp only); (first | with_reducible assumption | with_reducible exact held_next (by assumption) (by assumption) | with_reducible exact held_alloc (by assumption) _))); clear hK K; (try simp only [Act.put, s1, s2, s3]))
        (refine takeH (i := 2) (oi := ?o23) (v := ?v23) ?h23 (by kernel_rfl) ?q23 (Or.inl ⟨?w23, ?y23⟩) (by assumption) ?r23; (case h23 => ((simp only [g1, g2, g3]); rfl)); (case q23 => exact fun _ _ _ h => h); (case w23 => rfl); (case y23 => (intro w' hSw; (try dsimp only at hSw); go_simp; (try with_reducible rfl))); (try simp only [Act.put, s1, s2, s3]))
        (refine takeH (i := 3) (oi := ?o24) (v := ?v24) ?h24 (by kernel_rfl) ?q24 (Or.inl ⟨?w24, ?y24⟩) (by assumption) ?r24; (case h24 => ((simp only [g1, g2, g3]); rfl)); (case q24 => exact fun _ _ _ h => h); (case w24 => rfl); (case y24 => (intro w' hSw; (try dsimp only at hSw); go_simp; (try with_reducible rfl))); (try simp only [Act.put, s1, s2, s3]))
        refine wpAnyH_done (by kernel_rfl) ?_ _
        all_goals
          go_wp2_with fail
          (try go_ret)
          exact ⟨by simp [bareI], (by (repeat (first | with_reducible assumption | with_reducible exact Kp.refl _ | with_reducible refine Kp.drew ?_ | with_reducible refine Kp.drewN ?_ _ | with_reducible refine Kp.alloc ?_ _ | ((with_reducible refine Kp.setCell ?_ ?_ _); rotate_left; (focus (first | omega | (simp; done) | (simp; omega)))) | with_reducible refine Kp.trans ?_ (by assumption))))⟩
      · have q1 : (k == 1) = false := beq_eq_false_iff_ne.2 h1
        have q2 : (k == 2) = false := beq_eq_false_iff_ne.2 h2
        have q7 : (k == 7) = false := beq_eq_false_iff_ne.2 h7
        by_cases hm : k = 3 ∨ k = 4 ∨ k = 5 ∨ k = 6
        · have hb : bareI ⟨k, h, f, s, o, r, n⟩ = (h == 0 && (f == 0 && (s == 0 && (o == 0 && r == 0)))) := by unfold bareI; simp only [if_neg h1, if_neg h2, if_pos hm]
          rw [hb]
          clear hb
          rcases hm with rfl | rfl | rfl | rfl
          all_goals
            go_enter Tryz.func31, Tryz.ntmps31
            go_wp2_with fail
            (try go_ret)
            exact ⟨by simp, (by (repeat (first | with_reducible assumption | with_reducible exact Kp.refl _ | with_reducible refine Kp.drew ?_ | with_reducible refine Kp.drewN ?_ _ | with_reducible refine Kp.alloc ?_ _ | ((with_reducible refine Kp.setCell ?_ ?_ _); rotate_left; (focus (first | omega | (simp; done) | (simp; omega)))) | with_reducible refine Kp.trans ?_ (by assumption))))⟩
        · have q3 : (k == 3) = false := beq_eq_false_iff_ne.2 (fun e => hm (.inl e))
          have q4 : (k == 4) = false := beq_eq_false_iff_ne.2 (fun e => hm (.inr (.inl e)))
          have q5 : (k == 5) = false := beq_eq_false_iff_ne.2 (fun e => hm (.inr (.inr (.inl e))))
          have q6 : (k == 6) = false := beq_eq_false_iff_ne.2 (fun e => hm (.inr (.inr (.inr e))))
          have hb : bareI ⟨k, h, f, s, o, r, n⟩ = false := by unfold bareI; simp only [if_neg h1, if_neg h2, if_neg hm, if_neg h7]
          rw [hb]
          clear hb hm
          go_enter Tryz.func31, Tryz.ntmps31
          go_wp2_with fail
          (try go_ret)
          exact ⟨rfl, (by (repeat (first | with_reducible assumption | with_reducible exact Kp.refl _ | with_reducible refine Kp.drew ?_ | with_reducible refine Kp.drewN ?_ _ | with_reducible refine Kp.alloc ?_ _ | ((with_reducible refine Kp.setCell ?_ ?_ _); rotate_left; (focus (first | omega | (simp; done) | (simp; omega)))) | with_reducible refine Kp.trans ?_ (by assumption))))⟩
def noteI (d : NtD) : Bool := decide (1 ≤ d.lines.length) && (d.lines.length == d.pens.length + 1)
/-- How many items of a kind there are, if they are in order. -/
def ancI (K : Int) (l : List Itm) : Nat → Option Nat
  | 0 => some 0
  | i + 1 => (ancI K l i).bind fun c => match l[i]? with
    | none => some c
    | some x => if x.k = K then (if x.n = (c : Int) then some (c + 1) else none) else some c
theorem ancI_none {K : Int} {l : List Itm} {i : Nat} (h : ancI K l i = none) : ∀ m, ancI K l (i + m) = none
  | 0 => h
  | m + 1 => by
    show (ancI K l (i + m)).bind _ = none
    rw [ancI_none h m]; rfl
theorem ancI_le {K : Int} {l : List Itm} : ∀ {i c : Nat}, ancI K l i = some c → c ≤ i
  | 0, c, h => by cases h; exact Nat.le_refl _
  | i + 1, c, h => by
    unfold ancI at h
    rw [Option.bind_eq_some_iff] at h
    obtain ⟨c', h1, h2⟩ := h
    have := ancI_le h1
    split at h2
    · cases h2; omega
    · split at h2
      · split at h2
        · cases h2; omega
        · cases h2
      · cases h2; omega
set_option maxRecDepth 100000 in
set_option maxHeartbeats 4000000 in
theorem anch_any (x : SlV Itm) (K : Int) (many : Nat) (w : World) (h1 : SlOk w 7 Itm.cells x.a x.len x.cap x.l) (hs : x.l.length ≤ 1000000) :
    Calls Tryz.prog 32 #[.slice x.a x.len x.cap, .int .i64 K, .int .i64 (many : Int)] w fun e w' => e = .returned (.bool (ancI K x.l x.l.length == some many)) ∧ Kp w w' := by
  obtain ⟨a1, n, c1, l⟩ := x
  simp only at h1 hs ⊢
  have hc1 := h1.2.1
  have hm1 := h1.2.2.1
  unfold maxLen at hm1
  rw [h1.1] at hs
  rw [h1.1]
  have H1 := Lib.hid h1
  clear h1
  go_enter Tryz.func32, Tryz.ntmps32
  go_wp2_with fail
  go_loopw [7, 12] (fun v7 v12 wr => ∃ k c : Nat, k ≤ n ∧ v12 = .int .i64 k ∧ v7 = .int .i64 c ∧ ancI K l k = some c ∧ Kp w wr) (fun _ v12 _ => n - (intOf v12).toNat)
  case atStart => exact ⟨0, 0, Nat.zero_le _, rfl, rfl, rfl, (by (repeat (first | with_reducible assumption | with_reducible exact Kp.refl _ | with_reducible refine Kp.drew ?_ | with_reducible refine Kp.drewN ?_ _ | with_reducible refine Kp.alloc ?_ _ | ((with_reducible refine Kp.setCell ?_ ?_ _); rotate_left; (focus (first | omega | (simp; done) | (simp; omega)))) | with_reducible refine Kp.trans ?_ (by assumption))))⟩
  case round =>
    obtain ⟨k, c, hk, rfl, rfl, ha, xk⟩ := hrel
    have hcl := ancI_le ha
    by_cases hlt : k < n
    · obtain ⟨ga, oa, ⟨x0, x1, x2, x3, x4, x5, x6⟩, rfl, hga, hx, r1⟩ := (H1.out.kp xk).at hlt
      have d0 := r1 0 _ rfl; have d1 := r1 1 _ rfl; have d2 := r1 2 _ rfl; have d3 := r1 3 _ rfl; have d4 := r1 4 _ rfl; have d5 := r1 5 _ rfl; have d6 := r1 6 _ rfl
      simp only [Nat.add_zero] at d0 d1 d2 d3 d4 d5 d6
      have hnx : ancI K l (k + 1) = if x0 = K then (if x6 = (c : Int) then some (c + 1) else none) else some c := by
        show (ancI K l k).bind _ = _
        rw [ha, Option.bind_some, hx]
      have HNX := Lib.hid hnx
      have j1 : decide ((k : Int) < (n : Int)) = true := decide_eq_true (by omega)
      have hc1' : k < c1 := by omega
      clear r1 hx ha hnx
      by_cases e0 : x0 = K
      · have q0 : (x0 == K) = true := beq_iff_eq.2 e0
        by_cases e6 : x6 = (c : Int)
        · have q6 : (x6 == (c : Int)) = true := beq_iff_eq.2 e6
          have q6' : (x6 != (c : Int)) = false := by simp [bne, q6]
          have HN : Hid (ancI K l (k + 1) = some (c + 1)) := Lib.hid (by rw [HNX.out, if_pos e0, if_pos e6])
          clear e0 e6 HNX
          go_wp2_with fail
          go_roundw
          case rel => exact ⟨k + 1, c + 1, by omega, by go_num, by go_num, HN.out, (by (repeat (first | with_reducible assumption | with_reducible exact Kp.refl _ | with_reducible refine Kp.drew ?_ | with_reducible refine Kp.drewN ?_ _ | with_reducible refine Kp.alloc ?_ _ | ((with_reducible refine Kp.setCell ?_ ?_ _); rotate_left; (focus (first | omega | (simp; done) | (simp; omega)))) | with_reducible refine Kp.trans ?_ (by assumption))))⟩
          case measure => simp [intOf]; omega
        · have q6 : (x6 == (c : Int)) = false := beq_eq_false_iff_ne.2 e6
          have q6' : (x6 != (c : Int)) = true := by simp [bne, q6]
          have HN : Hid (ancI K l n = none) := Lib.hid (by
            have := ancI_none (K := K) (l := l) (i := k + 1) (by rw [HNX.out, if_pos e0, if_neg e6]) (n - (k + 1))
            rwa [Nat.add_sub_cancel' (by omega)] at this)
          clear e0 e6 HNX
          go_wp2_with fail
          (try go_ret)
          exact ⟨by rw [HN.out]; rfl, (by (repeat (first | with_reducible assumption | with_reducible exact Kp.refl _ | with_reducible refine Kp.drew ?_ | with_reducible refine Kp.drewN ?_ _ | with_reducible refine Kp.alloc ?_ _ | ((with_reducible refine Kp.setCell ?_ ?_ _); rotate_left; (focus (first | omega | (simp; done) | (simp; omega)))) | with_reducible refine Kp.trans ?_ (by assumption))))⟩
      · have q0 : (x0 == K) = false := beq_eq_false_iff_ne.2 e0
        have HN : Hid (ancI K l (k + 1) = some c) := Lib.hid (by rw [HNX.out, if_neg e0])
        clear e0 HNX
        go_wp2_with fail
        go_roundw
        case rel => exact ⟨k + 1, c, by omega, by go_num, by first | rfl | go_num, HN.out, (by (repeat (first | with_reducible assumption | with_reducible exact Kp.refl _ | with_reducible refine Kp.drew ?_ | with_reducible refine Kp.drewN ?_ _ | with_reducible refine Kp.alloc ?_ _ | ((with_reducible refine Kp.setCell ?_ ?_ _); rotate_left; (focus (first | omega | (simp; done) | (simp; omega)))) | with_reducible refine Kp.trans ?_ (by assumption))))⟩
        case measure => simp [intOf]; omega
    · obtain rfl : k = n := by omega
      have j1 : decide ((k : Int) < (k : Int)) = false := decide_eq_false (by omega)
      have HA := Lib.hid ha
      have e : ((c : Int) == (many : Int)) = (some c == some many) := by
        by_cases e : c = many
        · subst e; simp
        · have : ¬ (c : Int) = (many : Int) := by omega
          rw [beq_eq_false_iff_ne.2 this]; symm; simpa using e
      have HE := Lib.hid e
      clear ha e
      go_wp2_with fail
      (try go_ret)
      exact ⟨by rw [HA.out]; exact congrArg (fun b => Ending.returned (Value.bool b)) HE.out, xk⟩
/-- Has a job a text? -/
def rightJ (j : JobD) : Bool := (j.items.all bareI && j.notes.all noteI) && (ancI 5 j.items j.items.length == some j.notes.length && ancI 6 j.items j.items.length == some j.floats.length)
theorem all_no {α : Type} {p : α → Bool} {l : List α} {k : Nat} {x : α} (h : l[k]? = some x) (hp : p x = false) : l.all p = false := by
  rw [List.all_eq_false]
  exact ⟨x, List.mem_of_getElem? h, by rw [hp]; simp⟩
theorem all_yes {α : Type} {p : α → Bool} {l : List α} (h : ∀ (k : Nat) (x : α), l[k]? = some x → p x = true) : l.all p = true := by
  rw [List.all_eq_true]
  intro x hx
  obtain ⟨k, hk, rfl⟩ := List.getElem_of_mem hx
  exact h k _ (List.getElem?_eq_getElem hk)
set_option maxRecDepth 100000 in
set_option maxHeartbeats 8000000 in
theorem right_any (x : JobI) (w : World) (h1 : x.good w) (hs : x.its.l.length ≤ 1000000) :
    Calls Tryz.prog 16 #[.agg x.L.toArray] w fun e w' => e = .returned (.bool (rightJ x.d)) ∧ Kp w w' := by
  obtain ⟨X, hX⟩ : ∃ X, x.L = X := ⟨_, rfl⟩
  obtain ⟨R, hR⟩ : ∃ R, rightJ x.d = R := ⟨_, rfl⟩
  have X19 := Lib.hid (x.get h1.len 1 (by omega))
  have X20 := Lib.hid (x.get h1.len 2 (by omega))
  have X21 := Lib.hid (x.get h1.len 3 (by omega))
  have CA := Lib.hid (fun w' (k : Kp w w') (K : Int) (m : Nat) => anch_any x.its K m w' (h1.its.kp k) hs)
  have HA1 : Hid (x.its.l.all bareI = false → R = false) := Lib.hid fun h => by rw [← hR]; unfold rightJ; rw [show x.d.items = x.its.l from rfl, h]; rfl
  have HA2 : Hid (x.d.notes.all noteI = false → R = false) := Lib.hid fun h => by rw [← hR]; unfold rightJ; rw [h, Bool.and_false]; rfl
  have HA3 : Hid (x.its.l.all bareI = true → x.d.notes.all noteI = true → R = (ancI 5 x.its.l x.its.l.length == some x.nts.len && ancI 6 x.its.l x.its.l.length == some x.fls.len)) := Lib.hid fun h g => by
    rw [← hR]; unfold rightJ
    rw [show x.d.items = x.its.l from rfl, h, g, ← h1.nts.1, ← h1.fls.1]
    show (true && (ancI 5 x.its.l x.its.l.length == some (x.nts.l.map Nt.d).length && ancI 6 x.its.l x.its.l.length == some x.fls.l.length)) = _
    rw [List.length_map, Bool.true_and]
  have HI := Lib.hid h1.its
  have HN := Lib.hid h1.nts
  have HNO := Lib.hid h1.nok
  have hc1 := h1.its.2.1
  have hm1 := h1.its.2.2.1
  have hc2 := h1.nts.2.1
  have hm2 := h1.nts.2.2.1
  unfold maxLen at hm1 hm2
  rw [hX] at X19 X20 X21 ⊢
  rw [hR]
  have HND : Hid (∀ (k : Nat) (y : Nt), x.nts.l[k]? = some y → x.d.notes[k]? = some y.d) := Lib.hid fun k y h => by
    show (x.nts.l.map Nt.d)[k]? = _
    rw [List.getElem?_map, h]; rfl
  obtain ⟨ND, hND⟩ : ∃ ND, x.d.notes = ND := ⟨_, rfl⟩
  rw [hND] at HA2 HA3 HND
  have HNL : Hid (ND.length = x.nts.len) := Lib.hid (by rw [← hND, ← h1.nts.1]; exact List.length_map _)
  obtain ⟨p1, b1, ⟨a1, n, c1, l⟩, ⟨a2, m, c2, l2⟩, ⟨a3, q, c3, l3⟩⟩ := x
  simp only at HA1 HA3 CA HI HN HNO hc1 hm1 hc2 hm2 X19 X20 X21 HND HNL
  clear h1 hX hR hND hs
  go_enter Tryz.func16, Tryz.ntmps16
  go_wp2_with (first
    | (refine boxRowW (vs := X) rfl (.tmp 0) rfl rfl ?_; intro w1 hA hoth hkp hlt; have kw1 : Kp w w1 := hkp (Kp.refl w); have cA := hA.cell 19 (X19.out.trans rfl); clear hoth hkp))
  have HA := Lib.hid hA
  have hal := hA.lt
  clear hA
  go_loopw [10] (fun v10 wr => ∃ k : Nat, k ≤ n ∧ v10 = .int .i64 k ∧ (∀ (j : Nat) (x : Itm), j < k → l[j]? = some x → bareI x = true) ∧ Kp w1 wr) (fun v10 _ => n - (intOf v10).toNat)
  case atStart => exact ⟨0, Nat.zero_le _, rfl, fun j x hj => by omega, (by (repeat (first | with_reducible assumption | with_reducible exact Kp.refl _ | with_reducible refine Kp.drew ?_ | with_reducible refine Kp.drewN ?_ _ | with_reducible refine Kp.alloc ?_ _ | ((with_reducible refine Kp.setCell ?_ ?_ _); rotate_left; (focus (first | omega | (simp; done) | (simp; omega)))) | with_reducible refine Kp.trans ?_ (by assumption))))⟩
  case round =>
    obtain ⟨k, hk, rfl, hall, xk⟩ := hrel
    have xk0 := kw1.trans xk
    have HALL := Lib.hid hall
    clear hall cA
    by_cases hlt : k < n
    · obtain ⟨ga, oa, ⟨x0, x1, x2, x3, x4, x5, x6⟩, rfl, hga, hx, r1⟩ := (HI.out.kp xk0).at hlt
      have d0 := r1 0 _ rfl; have d1 := r1 1 _ rfl; have d2 := r1 2 _ rfl; have d3 := r1 3 _ rfl; have d4 := r1 4 _ rfl; have d5 := r1 5 _ rfl; have d6 := r1 6 _ rfl
      simp only [Nat.add_zero] at d0 d1 d2 d3 d4 d5 d6
      have j1 : decide ((k : Int) < (n : Int)) = true := decide_eq_true (by omega)
      have hc1' : k < c1 := by omega
      have HX := Lib.hid hx
      clear r1 hx
      obtain ⟨B, hB⟩ : ∃ B, bareI ⟨x0, x1, x2, x3, x4, x5, x6⟩ = B := ⟨_, rfl⟩
      have CB := Lib.hid (fun w' => bare_any x0 x1 x2 x3 x4 x5 x6 w')
      rw [hB] at CB
      have HB := Lib.hid hB
      clear hB
      go_wp2_with fail
      refine (CB.out _).mono ?_
      rintro e w2 ⟨rfl, kk⟩
      have k2 : Kp wr w2 := (show Kp wr _ from (by (repeat (first | with_reducible assumption | with_reducible exact Kp.refl _ | with_reducible refine Kp.drew ?_ | with_reducible refine Kp.drewN ?_ _ | with_reducible refine Kp.alloc ?_ _ | ((with_reducible refine Kp.setCell ?_ ?_ _); rotate_left; (focus (first | omega | (simp; done) | (simp; omega)))) | with_reducible refine Kp.trans ?_ (by assumption))))).trans kk
      rcases B with _ | _
      · have HZ := Lib.hid (HA1.out (all_no HX.out HB.out))
        go_wp2_with fail
        (try go_ret)
        exact ⟨by rw [HZ.out]; rfl, xk0.trans k2⟩
      · have HAL : Hid (∀ (j : Nat) (x : Itm), j < k + 1 → l[j]? = some x → bareI x = true) := Lib.hid fun j x hj hx => by
          by_cases e : j = k
          · rw [e, HX.out] at hx; cases hx; exact HB.out
          · exact HALL.out j x (by omega) hx
        go_wp2_with fail
        go_roundw
        case rel => exact ⟨k + 1, by omega, by go_num, HAL.out, xk.trans k2⟩
        case measure => simp [intOf]; omega
    · obtain rfl : k = n := by omega
      have j1 : decide ((k : Int) < (k : Int)) = false := decide_eq_false (by omega)
      have hl := HI.out.1
      have HALB : Hid (l.all bareI = true) := Lib.hid (all_yes fun j x hj => HALL.out j x (by have := (List.getElem?_eq_some_iff.1 hj).1; omega) hj)
      have cA := (HA.out.kp xk).cell 20 (X20.out.trans rfl)
      have hal' := Nat.lt_of_lt_of_le hal xk.size
      clear hl HALL
      go_wp2_with fail
      go_loopw [21] (fun v21 wr => ∃ i : Nat, i ≤ m ∧ v21 = .int .i64 i ∧ (∀ (j : Nat) (x : NtD), j < i → ND[j]? = some x → noteI x = true) ∧ Kp w1 wr) (fun v21 _ => m - (intOf v21).toNat)
      case atStart => exact ⟨0, Nat.zero_le _, rfl, fun j x hj => by omega, (by (repeat (first | with_reducible assumption | with_reducible exact Kp.refl _ | with_reducible refine Kp.drew ?_ | with_reducible refine Kp.drewN ?_ _ | with_reducible refine Kp.alloc ?_ _ | ((with_reducible refine Kp.setCell ?_ ?_ _); rotate_left; (focus (first | omega | (simp; done) | (simp; omega)))) | with_reducible refine Kp.trans ?_ (by assumption))))⟩
      case round =>
        clear cA hal' xk0 xk
        obtain ⟨i, hi, rfl, hall, xk⟩ := hrel
        have xk0 := kw1.trans xk
        have HALL := Lib.hid hall
        clear hall
        by_cases hlt2 : i < m
        · obtain ⟨ga, oa, ⟨⟨la, ln, lc, ll⟩, ⟨pa, pn, pc, pl⟩⟩, rfl, hga, hx, r1⟩ := (HN.out.kp xk0).at hlt2
          have d0 := r1 0 _ rfl; have d1 := r1 1 _ rfl
          simp only [Nat.add_zero] at d0
          have hgo := HNO.out _ (List.mem_of_getElem? hx)
          have hnd := HND.out i _ hx
          have g1l : ll.length = ln := hgo.1.1.1
          have g2l : pl.length = pn := hgo.2.1.1
          have hno : noteI ⟨ll, pl⟩ = (decide (1 ≤ ln) && (ln == pn + 1)) := by unfold noteI; rw [g1l, g2l]
          have j2 : decide ((i : Int) < (m : Int)) = true := decide_eq_true (by omega)
          have hc2' : i < c2 := by omega
          have HX := Lib.hid hnd
          have HNN := Lib.hid hno
          have hlb1 := hgo.1.1.2.1
          have hlb2 := hgo.1.1.2.2.1
          simp only at hlb1 hlb2 d1
          unfold maxLen at hlb2
          clear r1 hx hgo hnd g1l g2l hno
          by_cases e1 : ln < 1
          · have q1 : decide ((ln : Int) < 1) = true := decide_eq_true (by omega)
            have HZ := Lib.hid (HA2.out (all_no HX.out (by show noteI ⟨ll, pl⟩ = false; rw [HNN.out, decide_eq_false (by omega)]; rfl)))
            go_wp2_with fail
            (try go_ret)
            exact ⟨by rw [HZ.out]; rfl, xk0.trans (by (repeat (first | with_reducible assumption | with_reducible exact Kp.refl _ | with_reducible refine Kp.drew ?_ | with_reducible refine Kp.drewN ?_ _ | with_reducible refine Kp.alloc ?_ _ | ((with_reducible refine Kp.setCell ?_ ?_ _); rotate_left; (focus (first | omega | (simp; done) | (simp; omega)))) | with_reducible refine Kp.trans ?_ (by assumption))))⟩
          · have q1 : decide ((ln : Int) < 1) = false := decide_eq_false (by omega)
            by_cases e2 : ln = pn + 1
            · have q2 : ((pn : Int) == (ln : Int) - 1) = true := beq_iff_eq.2 (by omega)
              have q3 : ((pn : Int) != (ln : Int) - 1) = false := by simp [bne, q2]
              have HAL : Hid (∀ (j : Nat) (x : NtD), j < i + 1 → ND[j]? = some x → noteI x = true) := Lib.hid fun j x hj hx => by
                by_cases e : j = i
                · rw [e, HX.out] at hx; cases hx
                  show noteI ⟨ll, pl⟩ = true
                  rw [HNN.out, decide_eq_true (by omega), e2]; simp
                · exact HALL.out j x (by omega) hx
              clear e2
              go_wp2_with fail
              go_roundw
              case rel => exact ⟨i + 1, by omega, by go_num, HAL.out, (by (repeat (first | with_reducible assumption | with_reducible exact Kp.refl _ | with_reducible refine Kp.drew ?_ | with_reducible refine Kp.drewN ?_ _ | with_reducible refine Kp.alloc ?_ _ | ((with_reducible refine Kp.setCell ?_ ?_ _); rotate_left; (focus (first | omega | (simp; done) | (simp; omega)))) | with_reducible refine Kp.trans ?_ (by assumption))))⟩
              case measure => simp [intOf]; omega
            · have q2 : ((pn : Int) == (ln : Int) - 1) = false := beq_eq_false_iff_ne.2 (by omega)
              have q3 : ((pn : Int) != (ln : Int) - 1) = true := by simp [bne, q2]
              have HZ := Lib.hid (HA2.out (all_no HX.out (by show noteI ⟨ll, pl⟩ = false; rw [HNN.out, beq_eq_false_iff_ne.2 e2, Bool.and_false])))
              clear e2
              go_wp2_with fail
              (try go_ret)
              exact ⟨by rw [HZ.out]; rfl, xk0.trans (by (repeat (first | with_reducible assumption | with_reducible exact Kp.refl _ | with_reducible refine Kp.drew ?_ | with_reducible refine Kp.drewN ?_ _ | with_reducible refine Kp.alloc ?_ _ | ((with_reducible refine Kp.setCell ?_ ?_ _); rotate_left; (focus (first | omega | (simp; done) | (simp; omega)))) | with_reducible refine Kp.trans ?_ (by assumption))))⟩
        · obtain rfl : i = m := by omega
          have j2 : decide ((i : Int) < (i : Int)) = false := decide_eq_false (by omega)
          have HFIN := Lib.hid (HA3.out HALB.out (all_yes fun j x hj => HALL.out j x (by have := (List.getElem?_eq_some_iff.1 hj).1; rw [HNL.out] at this; exact this) hj))
          have z19 := (HA.out.kp xk).cell 19 (X19.out.trans rfl)
          have z20 := (HA.out.kp xk).cell 20 (X20.out.trans rfl)
          obtain ⟨B5, hB5⟩ : ∃ B, (ancI 5 l l.length == some i) = B := ⟨_, rfl⟩
          obtain ⟨B6, hB6⟩ : ∃ B, (ancI 6 l l.length == some q) = B := ⟨_, rfl⟩
          have C5 := Lib.hid (fun w' k => CA.out w' k 5 i)
          have C6 := Lib.hid (fun w' k => CA.out w' k 6 q)
          rw [hB5] at C5 HFIN
          rw [hB6] at C6 HFIN
          clear hB5 hB6 CA HALL HA1 HA2 HA3
          go_wp2_with fail
          refine (C5.out _ (xk0.trans (by (repeat (first | with_reducible assumption | with_reducible exact Kp.refl _ | with_reducible refine Kp.drew ?_ | with_reducible refine Kp.drewN ?_ _ | with_reducible refine Kp.alloc ?_ _ | ((with_reducible refine Kp.setCell ?_ ?_ _); rotate_left; (focus (first | omega | (simp; done) | (simp; omega)))) | with_reducible refine Kp.trans ?_ (by assumption)))))).mono ?_
          rintro e w3 ⟨rfl, k3⟩
          have k13 : Kp w1 w3 := xk.trans ((show Kp wr _ from (by (repeat (first | with_reducible assumption | with_reducible exact Kp.refl _ | with_reducible refine Kp.drew ?_ | with_reducible refine Kp.drewN ?_ _ | with_reducible refine Kp.alloc ?_ _ | ((with_reducible refine Kp.setCell ?_ ?_ _); rotate_left; (focus (first | omega | (simp; done) | (simp; omega)))) | with_reducible refine Kp.trans ?_ (by assumption))))).trans k3)
          have y19 := (HA.out.kp k13).cell 19 (X19.out.trans rfl)
          have y21 := (HA.out.kp k13).cell 21 (X21.out.trans rfl)
          rcases B5 with _ | _
          · go_wp2_with fail
            (try go_ret)
            exact ⟨by rw [HFIN.out]; rfl, kw1.trans k13⟩
          · go_wp2_with fail
            refine (C6.out _ (kw1.trans k13)).mono ?_
            rintro e w4 ⟨rfl, k4⟩
            go_wp2_with fail
            (try go_ret)
            exact ⟨by rw [HFIN.out]; rfl, (kw1.trans k13).trans k4⟩
end Go.Proofs.YtaekeogaakogbaaGreatDoor
namespace Go.Proofs.YtaekeogaakogbaaGreatDoor

open Go.ChangeShapes Go.WideShapes Go.ChangeAt Go.RowKit Go.Shelf

def wvN (ls ps : List Int) : Nat → List Int
  | 0 => []
  | i + 1 => (wvN ls ps i ++ (if i = 0 then [] else [ps.getD (i - 1) 0])) ++ [ls.getD i 0]
theorem wvN_len (ls ps : List Int) : ∀ i, (wvN ls ps i).length ≤ 2 * i
  | 0 => Nat.le_refl _
  | i + 1 => by
    have := wvN_len ls ps i
    unfold wvN
    rw [List.length_append, List.length_append, List.length_singleton]
    split <;> simp <;> omega
/-- A note's numbers, line and penalty by turns. -/
def weave (d : NtD) : List Int := wvN d.lines d.pens d.lines.length
def numsJ (j : JobD) (y : Itm) : List Int :=
  if y.k = 1 then [y.h, y.f]
  else if y.k = 2 then [y.h, y.s, y.o, y.r]
  else if y.k = 5 then (match j.notes[y.n.toNat]? with | some d => weave d | none => [])
  else if y.k = 6 then (match j.floats[y.n.toNat]? with | some f => [f.c, f.h, f.w] | none => [])
  else if y.k = 7 then []
  else [y.n]
def NumEnd (W : World) (l : List Int) (e : Ending) (w' : World) : Prop := Kp W w' ∧ ∃ a c, e = .returned (.slice a l.length c) ∧ Row w' W.heap.size 2 1 enc1 (.slice a l.length c) l
theorem row_ints {w : World} {base b : Nat} {e : TypeId} {l : List Int} {cs : List Value} (hB : Blk w b cs e) (hc : cs = l.flatMap enc1) (hb : base ≤ b) (hm : l.length ≤ 1000) : Row w base e 1 enc1 (.slice (some ⟨b, 0, none⟩) l.length l.length) l := by
  have hlen : cs.length = l.length := by
    rw [hc]
    clear hB hc hm
    induction l with
    | nil => rfl
    | cons x l ih => rw [List.flatMap_cons, List.length_append, ih]; simp [enc1]; omega
  refine ⟨by rw [← hc, hlen, Nat.mul_one], .inr ⟨b, l.length, cs.toArray, rfl, hb, hB.heap, Nat.le_refl _, by unfold maxLen; omega, by simp [hlen], ?_⟩⟩
  rw [← hc, Nat.mul_one, ← hlen]
  simp
set_option maxRecDepth 100000 in
set_option maxHeartbeats 4000000 in
theorem nums_flat (X : List Value) (k h f s o r n : Int) (l : List Int) (hl : (k = 1 ∧ l = [h, f]) ∨ (k = 2 ∧ l = [h, s, o, r]) ∨ (k = 7 ∧ l = []) ∨ (k ≠ 1 ∧ k ≠ 2 ∧ k ≠ 5 ∧ k ≠ 6 ∧ k ≠ 7 ∧ l = [n])) (w : World) :
    Calls Tryz.prog 20 #[.agg X.toArray, .agg #[.int .i64 k, .int .i64 h, .int .i64 f, .int .i64 s, .int .i64 o, .int .i64 r, .int .i64 n]] w (NumEnd w l) := by
  rcases hl with ⟨rfl, rfl⟩ | ⟨rfl, rfl⟩ | ⟨rfl, rfl⟩ | ⟨h1, h2, h5, h6, h7, rfl⟩
  · go_enter Tryz.func20, Tryz.ntmps20
    go_wp2_with (first
      | (refine boxRowW (vs := X) rfl (.tmp 0) rfl rfl ?_; intro w1 hA hoth hkp hlt; have kw1 : Kp w w1 := hkp (Kp.refl w); clear hoth hkp))
    (try go_ret)
    exact ⟨(by (repeat (first | with_reducible assumption | with_reducible exact Kp.refl _ | with_reducible refine Kp.drew ?_ | with_reducible refine Kp.drewN ?_ _ | with_reducible refine Kp.alloc ?_ _ | ((with_reducible refine Kp.setCell ?_ ?_ _); rotate_left; (focus (first | omega | (simp; done) | (simp; omega)))) | with_reducible refine Kp.trans ?_ (by assumption)))), some ⟨w1.heap.size + 1, 0, none⟩, 2, rfl, row_ints (l := [h, f]) (b := w1.heap.size + 1) (show Blk _ (w1.heap.size + 1) [.int .i64 h, .int .i64 f] 2 from (by (repeat (first | with_reducible assumption | ((with_reducible refine Blk.newL ?_ ?_); (focus (first | (simp; done) | omega)); rfl) | with_reducible refine Blk.drew ?_ | with_reducible refine Blk.drewN ?_ _ | with_reducible refine Blk.alloc ?_ _ | ((with_reducible refine Blk.other ?_ ?_ _); rotate_left; (focus (first | with_reducible assumption | omega | (simp; done) | (simp; omega)))))))) rfl (by omega) (by simp)⟩
  · go_enter Tryz.func20, Tryz.ntmps20
    go_wp2_with (first
      | (refine boxRowW (vs := X) rfl (.tmp 0) rfl rfl ?_; intro w1 hA hoth hkp hlt; have kw1 : Kp w w1 := hkp (Kp.refl w); clear hoth hkp))
    (try go_ret)
    exact ⟨(by (repeat (first | with_reducible assumption | with_reducible exact Kp.refl _ | with_reducible refine Kp.drew ?_ | with_reducible refine Kp.drewN ?_ _ | with_reducible refine Kp.alloc ?_ _ | ((with_reducible refine Kp.setCell ?_ ?_ _); rotate_left; (focus (first | omega | (simp; done) | (simp; omega)))) | with_reducible refine Kp.trans ?_ (by assumption)))), some ⟨w1.heap.size + 1, 0, none⟩, 4, rfl, row_ints (l := [h, s, o, r]) (b := w1.heap.size + 1) (show Blk _ (w1.heap.size + 1) [.int .i64 h, .int .i64 s, .int .i64 o, .int .i64 r] 2 from (by (repeat (first | with_reducible assumption | ((with_reducible refine Blk.newL ?_ ?_); (focus (first | (simp; done) | omega)); rfl) | with_reducible refine Blk.drew ?_ | with_reducible refine Blk.drewN ?_ _ | with_reducible refine Blk.alloc ?_ _ | ((with_reducible refine Blk.other ?_ ?_ _); rotate_left; (focus (first | with_reducible assumption | omega | (simp; done) | (simp; omega)))))))) rfl (by omega) (by simp)⟩
  · go_enter Tryz.func20, Tryz.ntmps20
    go_wp2_with (first
      | (refine boxRowW (vs := X) rfl (.tmp 0) rfl rfl ?_; intro w1 hA hoth hkp hlt; have kw1 : Kp w w1 := hkp (Kp.refl w); clear hoth hkp))
    (try go_ret)
    exact ⟨(by (repeat (first | with_reducible assumption | with_reducible exact Kp.refl _ | with_reducible refine Kp.drew ?_ | with_reducible refine Kp.drewN ?_ _ | with_reducible refine Kp.alloc ?_ _ | ((with_reducible refine Kp.setCell ?_ ?_ _); rotate_left; (focus (first | omega | (simp; done) | (simp; omega)))) | with_reducible refine Kp.trans ?_ (by assumption)))), none, 0, rfl, Row.nil _ _ _ _ _⟩
  · have q1 : (k == 1) = false := beq_eq_false_iff_ne.2 h1
    have q2 : (k == 2) = false := beq_eq_false_iff_ne.2 h2
    have q5 : (k == 5) = false := beq_eq_false_iff_ne.2 h5
    have q6 : (k == 6) = false := beq_eq_false_iff_ne.2 h6
    have q7 : (k == 7) = false := beq_eq_false_iff_ne.2 h7
    go_enter Tryz.func20, Tryz.ntmps20
    go_wp2_with (first
      | (refine boxRowW (vs := X) rfl (.tmp 0) rfl rfl ?_; intro w1 hA hoth hkp hlt; have kw1 : Kp w w1 := hkp (Kp.refl w); clear hoth hkp))
    (try go_ret)
    exact ⟨(by (repeat (first | with_reducible assumption | with_reducible exact Kp.refl _ | with_reducible refine Kp.drew ?_ | with_reducible refine Kp.drewN ?_ _ | with_reducible refine Kp.alloc ?_ _ | ((with_reducible refine Kp.setCell ?_ ?_ _); rotate_left; (focus (first | omega | (simp; done) | (simp; omega)))) | with_reducible refine Kp.trans ?_ (by assumption)))), some ⟨w1.heap.size + 1, 0, none⟩, 1, rfl, row_ints (l := [n]) (b := w1.heap.size + 1) (show Blk _ (w1.heap.size + 1) [.int .i64 n] 2 from (by (repeat (first | with_reducible assumption | ((with_reducible refine Blk.newL ?_ ?_); (focus (first | (simp; done) | omega)); rfl) | with_reducible refine Blk.drew ?_ | with_reducible refine Blk.drewN ?_ _ | with_reducible refine Blk.alloc ?_ _ | ((with_reducible refine Blk.other ?_ ?_ _); rotate_left; (focus (first | with_reducible assumption | omega | (simp; done) | (simp; omega)))))))) rfl (by omega) (by simp)⟩
set_option maxRecDepth 100000 in
set_option maxHeartbeats 4000000 in
theorem nums_float (x : JobI) (w : World) (hx : x.good w) (h f s o r : Int) (i : Nat) (c : Flt) (hc : x.fls.l[i]? = some c) :
    Calls Tryz.prog 20 #[.agg x.L.toArray, .agg #[.int .i64 6, .int .i64 h, .int .i64 f, .int .i64 s, .int .i64 o, .int .i64 r, .int .i64 ((i:Int))]] w (NumEnd w [c.c, c.h, c.w]) := by
  obtain ⟨X, hX⟩ : ∃ X, x.L = X := ⟨_, rfl⟩
  have X21 := Lib.hid (x.get hx.len 3 (by omega))
  have hil : i < x.fls.len := by rw [← hx.fls.1]; exact (List.getElem?_eq_some_iff.1 hc).1
  obtain ⟨ga, oa, y, ha, hga, hy, r1⟩ := hx.fls.at hil
  obtain rfl := Option.some.inj (hc.symm.trans hy)
  have hcap := hx.fls.2.1
  have hcm := hx.fls.2.2.1
  unfold maxLen at hcm
  rw [hX] at X21 ⊢
  obtain ⟨p1, b1, ⟨a1, n1, c1, l1⟩, ⟨a2, n2, c2, l2⟩, ⟨a3, q, c3, l3⟩⟩ := x
  simp only at ha hil hcap hcm X21
  subst ha
  obtain ⟨z0, z1, z2⟩ := c
  have d0 := r1 0 _ rfl; have d1 := r1 1 _ rfl; have d2 := r1 2 _ rfl
  simp only [Nat.add_zero] at d0 d1 d2
  clear hx hc hy r1 hX
  go_enter Tryz.func20, Tryz.ntmps20
  go_wp2_with (first
    | (refine boxRowW (vs := X) rfl (.tmp 0) rfl rfl ?_; intro w1 hA hoth hkp hlt; have kw1 : Kp w w1 := hkp (Kp.refl w); have y21 := hA.cell 21 (X21.out.trans rfl); have e0 := (kw1.cell (p := ⟨ga, oa + i * 3, none⟩) hga).trans d0; have e1 := (kw1.cell (p := ⟨ga, oa + i * 3 + 1, none⟩) hga).trans d1; have e2 := (kw1.cell (p := ⟨ga, oa + i * 3 + 2, none⟩) hga).trans d2; have hga1 := Nat.lt_of_lt_of_le hga kw1.size; clear hoth hkp d0 d1 d2))
  (try go_ret)
  exact ⟨(by (repeat (first | with_reducible assumption | with_reducible exact Kp.refl _ | with_reducible refine Kp.drew ?_ | with_reducible refine Kp.drewN ?_ _ | with_reducible refine Kp.alloc ?_ _ | ((with_reducible refine Kp.setCell ?_ ?_ _); rotate_left; (focus (first | omega | (simp; done) | (simp; omega)))) | with_reducible refine Kp.trans ?_ (by assumption)))), some ⟨w1.heap.size + 1 + 1, 0, none⟩, 3, rfl, row_ints (l := [z0, z1, z2]) (b := w1.heap.size + 1 + 1) (show Blk _ (w1.heap.size + 1 + 1) [.int .i64 z0, .int .i64 z1, .int .i64 z2] 2 from (by (repeat (first | with_reducible assumption | ((with_reducible refine Blk.newL ?_ ?_); (focus (first | (simp; done) | omega)); rfl) | with_reducible refine Blk.drew ?_ | with_reducible refine Blk.drewN ?_ _ | with_reducible refine Blk.alloc ?_ _ | ((with_reducible refine Blk.other ?_ ?_ _); rotate_left; (focus (first | with_reducible assumption | omega | (simp; done) | (simp; omega)))))))) rfl (by omega) (by simp)⟩
set_option maxRecDepth 100000 in
set_option maxHeartbeats 8000000 in
theorem nums_note (x : JobI) (w : World) (hx : x.good w) (h f s o r : Int) (i : Nat) (y : Nt) (hc : x.nts.l[i]? = some y) (hp : y.ps.l.length + 1 = y.ls.l.length) (hl : y.ls.l.length ≤ 10000) :
    Calls Tryz.prog 20 #[.agg x.L.toArray, .agg #[.int .i64 5, .int .i64 h, .int .i64 f, .int .i64 s, .int .i64 o, .int .i64 r, .int .i64 ((i:Int))]] w (NumEnd w (weave y.d)) := by
  obtain ⟨X, hX⟩ : ∃ X, x.L = X := ⟨_, rfl⟩
  have X20 := Lib.hid (x.get hx.len 2 (by omega))
  have hil : i < x.nts.len := by rw [← hx.nts.1]; exact (List.getElem?_eq_some_iff.1 hc).1
  obtain ⟨ga, oa, y', ha, hga, hy, r1⟩ := hx.nts.at hil
  obtain rfl := Option.some.inj (hc.symm.trans hy)
  have hcap := hx.nts.2.1
  have hcm := hx.nts.2.2.1
  unfold maxLen at hcm
  have hgo := hx.nok _ (List.mem_of_getElem? hc)
  rw [hX] at X20 ⊢
  obtain ⟨p1, b1, ⟨a1, n1, c1, l1⟩, ⟨a2, n2, c2, l2⟩, ⟨a3, q, c3, l3⟩⟩ := x
  simp only at ha hil hcap hcm X20
  subst ha
  obtain ⟨⟨la, ln, lc, ls⟩, ⟨pa, pn, pc, ps⟩⟩ := y
  obtain ⟨⟨hL, -⟩, hP, -⟩ := hgo
  simp only at hL hP hp hl
  have hlc := hL.2.1
  have hlm := hL.2.2.1
  have hpc := hP.2.1
  have hpm := hP.2.2.1
  unfold maxLen at hlm hpm
  have hl1 := hL.1
  have hp1 := hP.1
  rw [hl1] at hp hl
  rw [hp1] at hp
  have HL := Lib.hid hL
  have HP := Lib.hid hP
  have HW : Hid (weave (Nt.d ⟨⟨la, ln, lc, ls⟩, ⟨pa, pn, pc, ps⟩⟩) = wvN ls ps ln) := Lib.hid (by show wvN ls ps ls.length = _; rw [hl1])
  have HPN := Lib.hid hp
  have d0 := r1 0 _ rfl; have d1 := r1 1 _ rfl
  simp only [Nat.add_zero] at d0 d1
  obtain ⟨V, hV⟩ : ∃ V, weave (Nt.d ⟨⟨la, ln, lc, ls⟩, ⟨pa, pn, pc, ps⟩⟩) = V := ⟨_, rfl⟩
  rw [hV] at HW ⊢
  clear hx hc hy r1 hX hL hP hl1 hp1 hp hV
  go_enter Tryz.func20, Tryz.ntmps20
  go_wp2_with (first
    | (refine boxRowW (vs := X) rfl (.tmp 0) rfl rfl ?_; intro w1 hA hoth hkp hlt; have kw1 : Kp w w1 := hkp (Kp.refl w); have y20 := hA.cell 20 (X20.out.trans rfl); have e0 := (kw1.cell (p := ⟨ga, oa + i * 2, none⟩) hga).trans d0; have e1 := (kw1.cell (p := ⟨ga, oa + i * 2 + 1, none⟩) hga).trans d1; have hga1 := Nat.lt_of_lt_of_le hga kw1.size; clear hoth hkp d0 d1))
  refine named_world (F := fun w2 => Blk w2 (w1.heap.size + 1) [.slice la ln lc, .slice pa pn pc] 47 ∧ Kp w w2) ⟨(by (repeat (first | with_reducible assumption | ((with_reducible refine Blk.newL ?_ ?_); (focus (first | (simp; done) | omega)); rfl) | with_reducible refine Blk.drew ?_ | with_reducible refine Blk.drewN ?_ _ | with_reducible refine Blk.alloc ?_ _ | ((with_reducible refine Blk.other ?_ ?_ _); rotate_left; (focus (first | with_reducible assumption | omega | (simp; done) | (simp; omega))))))), (by (repeat (first | with_reducible assumption | with_reducible exact Kp.refl _ | with_reducible refine Kp.drew ?_ | with_reducible refine Kp.drewN ?_ _ | with_reducible refine Kp.alloc ?_ _ | ((with_reducible refine Kp.setCell ?_ ?_ _); rotate_left; (focus (first | omega | (simp; done) | (simp; omega)))) | with_reducible refine Kp.trans ?_ (by assumption))))⟩ ?_
  rintro w2 ⟨hN, k2⟩
  have HN := Lib.hid hN
  have hnl := hN.lt
  clear hN y20 e0 e1
  go_loopw [6, 41] (fun v6 v41 wr => ∃ (k : Nat) (a : Option Addr) (c : Nat), k ≤ ln ∧ v41 = .int .i64 (k : Int) ∧ v6 = .slice a (wvN ls ps k).length c ∧ Row wr w.heap.size 2 1 enc1 (.slice a (wvN ls ps k).length c) (wvN ls ps k) ∧ Blk wr (w1.heap.size + 1) [.slice la ln lc, .slice pa pn pc] 47 ∧ Kp w wr) (fun _ v41 _ => ln - (intOf v41).toNat)
  case atStart => exact ⟨0, none, 0, Nat.zero_le _, rfl, rfl, Row.nil _ _ _ _ _, HN.out, k2⟩
  case round =>
    obtain ⟨k, a, c, hk, rfl, rfl, xr, xn, xk⟩ := hrel
    have hwl := wvN_len ls ps k
    have sl1 := Row.slok (enc := enc1) (n := 1) (fun _ => rfl) xr
    have hrc := sl1.2.1
    have hrm := sl1.2.2.1
    unfold maxLen at hrm
    clear sl1
    have z0 := xn.cell 0 rfl
    have z1 := xn.cell 1 rfl
    have xnl := xn.lt
    have HNZ : Hid (w.heap.size ≤ wr.heap.size) := Lib.hid xk.size
    by_cases hlt : k < ln
    · have j1 : decide ((k : Int) < (ln : Int)) = true := decide_eq_true (by omega)
      obtain ⟨gl, ol, x0, rfl, hgl, hx, q1⟩ := (HL.out.kp xk).at hlt
      have d0 := q1 0 _ rfl
      simp only [Nat.add_zero, Nat.mul_one] at d0
      have hgx : ls.getD k 0 = x0 := by rw [List.getD_eq_getElem?_getD, hx]; rfl
      rcases k with _ | k
      · have HNX : Hid (wvN ls ps 1 = wvN ls ps 0 ++ [x0]) := Lib.hid (by show ([] ++ [] : List Int) ++ [ls.getD 0 0] = _; rw [hgx]; rfl)
        have XR := Lib.hid xr
        have XN := Lib.hid xn
        simp only [Nat.add_zero] at d0
        clear q1 hx hgx xr xn
        go_wp2_with (at_builtin; go_loud (refine rowAppendXL ?gd (.tmp 57) (.tmp 59) 72 ?ho Tryz.underlying72 infoI64 rfl (by decide) (XR.out.alloc (.cells #[.int .i64 x0] 2)) ?hs (y := x0) rfl (numOne x0) (Blk.new _ _ 2) ?hx ?hl ?hb ?hz ?_; (case gd => rfl); (case ho => rfl); (case hs => rfl); (case hx => rfl); (case hl => unfold maxLen; omega); (case hb => omega); (case hz => exact Nat.le_trans HNZ.out (by simp)); intro v' w5 hr5 hg5 hl5; obtain ⟨a5, c5, rfl, _⟩ := hr5.sl (fun _ => rfl)))
        have hr0 := XR.out.alloc (.cells #[.int .i64 x0] 2)
        have xn5 := (Blk.alloc XN.out (.cells #[.int .i64 x0] 2)).grown1 hg5 (own_ne hr0 (Blk.alloc XN.out (.cells #[.int .i64 x0] 2)) (by decide))
        have k5 : Kp w w5 := (xk.alloc (.cells #[.int .i64 x0] 2)).grown1 hg5 fun b hb => (hr0.lt b hb).1
        rw [← HNX.out] at hr5
        have HR5 := Lib.hid hr5
        clear hr5
        go_roundw
        case rel => exact ⟨1, a5, c5, by omega, rfl, rfl, HR5.out, xn5, k5⟩
        case measure => simp [intOf]; omega
      · have hkp : k < pn := by have := HPN.out; omega
        obtain ⟨gp, op, p0, rfl, hgp, hpx, q2⟩ := (HP.out.kp xk).at hkp
        have f0 := q2 0 _ rfl
        simp only [Nat.add_zero, Nat.mul_one] at f0
        have hgpx : ps.getD k 0 = p0 := by rw [List.getD_eq_getElem?_getD, hpx]; rfl
        have HNX : Hid (wvN ls ps (k + 1 + 1) = (wvN ls ps (k + 1) ++ [p0]) ++ [x0]) := Lib.hid (by
          conv => lhs; unfold wvN
          rw [if_neg (by omega), Nat.add_sub_cancel, hgx, hgpx])
        have j0 : decide (0 < (k : Int) + 1) = true := decide_eq_true (by omega)
        have j3 : decide ((k : Int) + 1 < (ln : Int)) = true := decide_eq_true (by omega)
        have hpc' : k < pc := by omega
        have hlen1 : (wvN ls ps (k + 1)).length ≤ 30000 := by omega
        have XR := Lib.hid xr
        have XN := Lib.hid xn
        clear q1 hx hgx xr xn q2 hpx hgpx
        go_wp2_with (first
          | (at_builtin; go_loud (refine rowAppendXL ?gd (.tmp 48) (.tmp 55) 72 ?ho Tryz.underlying72 infoI64 rfl (by decide) (XR.out.alloc (.cells #[.int .i64 p0] 2)) ?hs (y := p0) rfl (numOne p0) (Blk.new _ _ 2) ?hx ?hl ?hb ?hz ?_; (case gd => rfl); (case ho => rfl); (case hs => rfl); (case hx => rfl); (case hl => unfold maxLen; omega); (case hb => omega); (case hz => exact Nat.le_trans HNZ.out (by simp)); intro v' w5 hr5 hg5 hl5; obtain ⟨a5, c5, rfl, _⟩ := hr5.sl (fun _ => rfl); have k15 : wr.grownBy w5 (Value.slice a (wvN ls ps (k + 1)).length c).ownBlock := grown_trans ((Kp.refl wr).alloc (.cells #[.int .i64 p0] 2)).grownBy hg5; have k5 : Kp w w5 := xk.grown1 k15 (fun b hb => (XR.out.lt b hb).1); have xn5 := XN.out.grown1 k15 (own_ne XR.out XN.out (by decide)); have hll : (wvN ls ps (k + 1) ++ [p0]).length = (wvN ls ps (k + 1)).length + 1 := (by simp); rw [hll] at hr5; have HR5 := Lib.hid hr5; have HZ5 := Lib.hid k5.size; clear hr5 hll))
          | (at_builtin; go_loud (refine rowAppendXL ?gd (.tmp 57) (.tmp 59) 72 ?ho Tryz.underlying72 infoI64 rfl (by decide) (HR5.out.alloc (.cells #[.int .i64 x0] 2)) ?hs (y := x0) rfl (numOne x0) (Blk.new _ _ 2) ?hx ?hl ?hb ?hz ?_; (case gd => rfl); (case ho => rfl); (case hs => rfl); (case hx => rfl); (case hl => (rw [List.length_append, List.length_singleton]; unfold maxLen; omega)); (case hb => (rw [List.length_append, List.length_singleton]; omega)); (case hz => exact Nat.le_trans HZ5.out (by simp)); intro v' w6 hr6 hg6 hl6; obtain ⟨a6, c6, rfl, _⟩ := hr6.sl (fun _ => rfl); have k56 := grown_trans ((Kp.refl w5).alloc (.cells #[.int .i64 x0] 2)).grownBy hg6; have k6 : Kp w w6 := k5.grown1 k56 (fun b hb => (HR5.out.lt b hb).1); have xn6 := xn5.grown1 k56 (own_ne HR5.out xn5 (by decide)); rw [← HNX.out] at hr6; have HR6 := Lib.hid hr6; clear hr6)))
        have hll2 : (wvN ls ps (k + 1 + 1)).length = (wvN ls ps (k + 1)).length + 1 + 1 := by rw [HNX.out]; simp
        have HLL := Lib.hid hll2
        clear hll2
        go_roundw
        case rel => exact ⟨k + 1 + 1, a6, c6, by omega, by go_num, by rw [HLL.out], HR6.out, xn6, k6⟩
        case measure => simp [intOf]; omega
    · obtain rfl : k = ln := by omega
      have j1 : decide ((k : Int) < (k : Int)) = false := decide_eq_false (by omega)
      have XR := Lib.hid xr
      have HW2 := HW.out
      rw [← HW2] at XR
      rw [← HW2]
      go_wp2_with fail
      (try go_ret)
      exact ⟨xk, a, c, rfl, XR.out⟩
end Go.Proofs.YtaekeogaakogbaaGreatDoor
namespace Go.Proofs.YtaekeogaakogbaaGreatDoor

open Go.ChangeShapes Go.WideShapes Go.ChangeAt Go.RowKit Go.Shelf

theorem Row.wr {α : Type} {w w' : World} {base n : Nat} {e : TypeId} {enc : α → List Value} {v : Value} {l : List α} (h : Row w base e n enc v l) (ht : e ≠ 5) {B b : Nat} (hne : ∀ g, v.ownBlock = some g → g ≠ b) (k : Wr B b w w') : Row w' base e n enc v l :=
  h.stay fun g hg => by
    obtain ⟨cur, hc⟩ := h.type hg
    rw [hc]
    exact k.2 g _ _ _ hc ht (hne g hg)
theorem Wr.ofKp {B b : Nat} {w w' : World} (k : Kp w w') (hB : B ≤ w.heap.size) : Wr B b w w' := ⟨Below.mono k hB, fun i _ _ _ hi _ _ => (k.block i (lt_of_block hi)).trans hi⟩
set_option maxRecDepth 100000 in
set_option maxHeartbeats 2000000 in
theorem lineT_any (W : World) (he : Env W) (B b : Nat) (hWB : W.heap.size ≤ B) (t wd : List UInt8) (a : Option Addr) (cap : Nat) (ns : List Int) (w : World) (kW : Kp W w) (hr : Row w 0 2 1 enc1 (.slice a ns.length cap) ns) (hne : ∀ g, (Value.slice a ns.length cap).ownBlock = some g → g ≠ b) (hi : ∀ x, x ∈ ns → I64 x) (hw : wd.length ≤ 1000) (hn : ns.length ≤ 100000) (ht : t.length ≤ 100000000000) (hb : Bld B b t w) :
    Calls Tryz.prog 18 #[.pointer (some ⟨b, 0, none⟩), sv wd, .slice a ns.length cap] w fun e w' => e = .returned (.tuple #[]) ∧ Bld B b (t ++ (lineL wd ns ++ [10])) w' ∧ Wr B b w w' := by
  have HE := Lib.hid he
  have HR := Lib.hid hr
  have HI := Lib.hid hi
  have HNE := Lib.hid hne
  have sl := Row.slok (enc := enc1) (n := 1) (fun _ => rfl) hr
  have hcl := sl.2.1
  have hcm := sl.2.2.1
  unfold maxLen at hcm
  clear he hi hr hne sl
  go_enter Tryz.func18, Tryz.ntmps18
  go_wp2_with fail
  refine (putString B b t wd _ hb (by omega)).mono ?_
  rintro e w1 ⟨⟨v, rfl⟩, h1, b1⟩
  go_wp2_with fail
  go_loopw [13] (fun v13 wr => ∃ (k : Nat), k ≤ ns.length ∧ v13 = .int .i64 k ∧ Bld B b (t ++ (wd ++ (ns.take k).flatMap numL)) wr ∧ Wr B b w wr) (fun v13 _ => ns.length - (intOf v13).toNat)
  case atStart => exact ⟨0, Nat.zero_le _, rfl, by simpa using h1, b1⟩
  case round =>
    clear h1 b1
    obtain ⟨k, hk, rfl, xb, xk⟩ := hrel
    have hfl : ((ns.take k).flatMap numL).length ≤ 22 * 100000 := Nat.le_trans (flat_short fun x hx => HI.out x (List.mem_of_mem_take hx)) (by rw [List.length_take]; omega)
    obtain ⟨u, hu⟩ : ∃ u, (ns.take k).flatMap numL = u := ⟨_, rfl⟩
    rw [hu] at xb hfl
    have xW := xk.kp kW hWB
    by_cases hlt : k < ns.length
    · obtain ⟨x, hx⟩ : ∃ x, ns[k]? = some x := ⟨ns[k]'hlt, List.getElem?_eq_getElem _⟩
      have hxi := HI.out x (List.mem_of_getElem? hx)
      have hxs := itoa_short hxi
      have hs := flat_snoc (f := numL) hx
      rw [hu] at hs
      have HS := Lib.hid hs
      obtain ⟨ga, oa, x', rfl, hga, hx', r1⟩ := (Row.slok (enc := enc1) (n := 1) (fun _ => rfl) (HR.out.wr (by decide) HNE.out xk)).at hlt
      obtain rfl := Option.some.inj (hx.symm.trans hx')
      have d0 := r1 0 _ rfl
      simp only [Nat.add_zero, Nat.mul_one] at d0
      have j1 : decide ((k : Int) < (ns.length : Int)) = true := decide_eq_true (by omega)
      have XB := Lib.hid xb
      have XI := Lib.hid hxi
      clear r1 hx hx' hs hu xb hxi
      go_wp2_with fail
      refine (putByte B b _ 32 32 rfl _ XB.out (by simp; omega)).mono ?_
      rintro e w2 ⟨⟨v, rfl⟩, h2, b2⟩
      have k2 : Wr B b w w2 := xk.trans b2
      clear b2
      go_wp2_with fail
      refine (formatInt x XI.out _ (HE.out.kp (k2.kp kW hWB))).mono ?_
      rintro e w3 ⟨rfl, k3⟩
      have h3 := h2.kp k3
      have k3' : Wr B b w w3 := k2.trans (Wr.ofKp k3 h2.2)
      clear h2 k2 k3
      go_wp2_with fail
      refine (putString B b _ _ _ h3 (by simp; omega)).mono ?_
      rintro e w4 ⟨⟨v, rfl⟩, h4, b4⟩
      have k4 : Wr B b w w4 := k3'.trans b4
      clear b4 h3 k3'
      go_wp2_with fail
      go_roundw
      case rel => exact ⟨k + 1, by omega, by go_num, by rw [HS.out]; simpa [numL] using h4, k4⟩
      case measure => simp [intOf]; omega
    · obtain rfl : k = ns.length := by omega
      have j1 : decide ((ns.length : Int) < (ns.length : Int)) = false := decide_eq_false (by omega)
      rw [List.take_length] at hu
      have HU := Lib.hid hu
      clear hu
      go_wp2_with fail
      refine (putByte B b _ 10 10 rfl _ xb (by simp; omega)).mono ?_
      rintro e w2 ⟨⟨v, rfl⟩, h2, b2⟩
      go_wp2_with fail
      exact ⟨rfl, .tuple #[], (by simp [results, Tryz.results18, go_sem]), rfl, by unfold lineL; rw [HU.out]; simpa using h2, xk.trans b2⟩
end Go.Proofs.YtaekeogaakogbaaGreatDoor
namespace Go.Proofs.YtaekeogaakogbaaGreatDoor

open Go.ChangeShapes Go.WideShapes Go.ChangeAt Go.RowKit Go.Shelf

/-- The gauges' row in block b, and what it points to. -/
def GTy (base : Nat) (w : World) (b : Nat) : Prop := ∃ L : List Value, base ≤ b ∧ Blk w b L 67 ∧ ∀ i, i < 18 → ∃ c t, t ≠ 5 ∧ base ≤ c ∧ Blk w c [.func (Fn.func (gat.getD i 0)) #[] #[]] t ∧ L[i * 3]? = some (sv (gwAt i)) ∧ L[i * 3 + 1]? = some (.func (Fn.func (gget.getD i 0)) #[] #[.pointer (some ⟨c, 0, none⟩)]) ∧ L[i * 3 + 2]? = some (.func (Fn.func (gset.getD i 0)) #[] #[.pointer (some ⟨c, 0, none⟩)])
theorem GTy.kp {base : Nat} {w w' : World} {b : Nat} (h : GTy base w b) (k : Kp w w') : GTy base w' b := by
  obtain ⟨L, h1, h2, h3⟩ := h
  exact ⟨L, h1, h2.kp k, fun i hi => by
    obtain ⟨c, t, g1', g2', g3', g4'⟩ := h3 i hi
    exact ⟨c, t, g1', g2', g3'.kp k, g4'⟩⟩
theorem GTy.wr {base B bb : Nat} {w w' : World} {b : Nat} (h : GTy base w b) (hb : bb < base) (k : Wr B bb w w') : GTy base w' b := by
  obtain ⟨L, h1, h2, h3⟩ := h
  exact ⟨L, h1, h2.wr (by decide) (by omega) k, fun i hi => by
    obtain ⟨c, t, g1', g2', g3', g4'⟩ := h3 i hi
    exact ⟨c, t, g1', g2', g3'.wr g1' (by omega) k, g4'⟩⟩
theorem get_call {i : Nat} (hi : i < 18) (b c : Nat) (x : Int) (w : World) (hc : w.cell? ⟨c, 0, none⟩ = some (.func (Fn.func (gat.getD i 0)) #[] #[])) (hb : w.cell? ⟨b, i, none⟩ = some (.int .i64 x)) :
    Calls Tryz.prog (gget.getD i 0) #[.pointer (some ⟨b, 0, none⟩), .pointer (some ⟨c, 0, none⟩)] w fun e w' => e = .returned (.int .i64 x) ∧ w' = w := by
  rcases cases18 hi with rfl | rfl | rfl | rfl | rfl | rfl | rfl | rfl | rfl | rfl | rfl | rfl | rfl | rfl | rfl | rfl | rfl | rfl
  · exact get_0 b c x w hc hb
  · exact get_1 b c x w hc hb
  · exact get_2 b c x w hc hb
  · exact get_3 b c x w hc hb
  · exact get_4 b c x w hc hb
  · exact get_5 b c x w hc hb
  · exact get_6 b c x w hc hb
  · exact get_7 b c x w hc hb
  · exact get_8 b c x w hc hb
  · exact get_9 b c x w hc hb
  · exact get_10 b c x w hc hb
  · exact get_11 b c x w hc hb
  · exact get_12 b c x w hc hb
  · exact get_13 b c x w hc hb
  · exact get_14 b c x w hc hb
  · exact get_15 b c x w hc hb
  · exact get_16 b c x w hc hb
  · exact get_17 b c x w hc hb
theorem gget_two {i : Nat} (hi : i < 18) : gget.getD i 0 = 74 ∨ gget.getD i 0 = 76 := by
  rcases cases18 hi with rfl | rfl | rfl | rfl | rfl | rfl | rfl | rfl | rfl | rfl | rfl | rfl | rfl | rfl | rfl | rfl | rfl | rfl <;> decide
set_option maxRecDepth 100000 in
set_option maxHeartbeats 8000000 in
theorem gauges_ty (w : World) : Calls Tryz.prog 17 #[] w fun e w' => ∃ b, e = .returned (.slice (some ⟨b, 0, none⟩) 18 18) ∧ GTy w.heap.size w' b ∧ Kp w w' := by
  go_enter Tryz.func17, Tryz.ntmps17
  go_wp2_with fail
  refine (num_any (gwAt 0) 34 _).mono ?_
  rintro e w1 ⟨rfl, b1, k1⟩
  go_wp2_with fail
  refine (sp_any (gwAt 1) 36 _).mono ?_
  rintro e w2 ⟨rfl, b2, k2⟩
  go_wp2_with fail
  refine (sp_any (gwAt 2) 37 _).mono ?_
  rintro e w3 ⟨rfl, b3, k3⟩
  go_wp2_with fail
  refine (sp_any (gwAt 3) 38 _).mono ?_
  rintro e w4 ⟨rfl, b4, k4⟩
  go_wp2_with fail
  refine (sp_any (gwAt 4) 39 _).mono ?_
  rintro e w5 ⟨rfl, b5, k5⟩
  go_wp2_with fail
  refine (sp_any (gwAt 5) 40 _).mono ?_
  rintro e w6 ⟨rfl, b6, k6⟩
  go_wp2_with fail
  refine (sp_any (gwAt 6) 41 _).mono ?_
  rintro e w7 ⟨rfl, b7, k7⟩
  go_wp2_with fail
  refine (sp_any (gwAt 7) 42 _).mono ?_
  rintro e w8 ⟨rfl, b8, k8⟩
  go_wp2_with fail
  refine (sp_any (gwAt 8) 43 _).mono ?_
  rintro e w9 ⟨rfl, b9, k9⟩
  go_wp2_with fail
  refine (sp_any (gwAt 9) 44 _).mono ?_
  rintro e w10 ⟨rfl, b10, k10⟩
  go_wp2_with fail
  refine (sp_any (gwAt 10) 45 _).mono ?_
  rintro e w11 ⟨rfl, b11, k11⟩
  go_wp2_with fail
  refine (num_any (gwAt 11) 46 _).mono ?_
  rintro e w12 ⟨rfl, b12, k12⟩
  go_wp2_with fail
  refine (num_any (gwAt 12) 47 _).mono ?_
  rintro e w13 ⟨rfl, b13, k13⟩
  go_wp2_with fail
  refine (num_any (gwAt 13) 48 _).mono ?_
  rintro e w14 ⟨rfl, b14, k14⟩
  go_wp2_with fail
  refine (num_any (gwAt 14) 49 _).mono ?_
  rintro e w15 ⟨rfl, b15, k15⟩
  go_wp2_with fail
  refine (num_any (gwAt 15) 50 _).mono ?_
  rintro e w16 ⟨rfl, b16, k16⟩
  go_wp2_with fail
  refine (num_any (gwAt 16) 51 _).mono ?_
  rintro e w17 ⟨rfl, b17, k17⟩
  go_wp2_with fail
  refine (num_any (gwAt 17) 52 _).mono ?_
  rintro e w18 ⟨rfl, b18, k18⟩
  go_wp2_with fail
  (try go_ret)
  suffices H : ∀ wz, Blk wz w18.heap.size ([sv (gwAt 0), .func (Fn.func 74) #[] #[.pointer (some ⟨w.heap.size, 0, none⟩)], .func (Fn.func 75) #[] #[.pointer (some ⟨w.heap.size, 0, none⟩)]] ++ ([sv (gwAt 1), .func (Fn.func 76) #[] #[.pointer (some ⟨w1.heap.size, 0, none⟩)], .func (Fn.func 77) #[] #[.pointer (some ⟨w1.heap.size, 0, none⟩)]] ++ ([sv (gwAt 2), .func (Fn.func 76) #[] #[.pointer (some ⟨w2.heap.size, 0, none⟩)], .func (Fn.func 77) #[] #[.pointer (some ⟨w2.heap.size, 0, none⟩)]] ++ ([sv (gwAt 3), .func (Fn.func 76) #[] #[.pointer (some ⟨w3.heap.size, 0, none⟩)], .func (Fn.func 77) #[] #[.pointer (some ⟨w3.heap.size, 0, none⟩)]] ++ ([sv (gwAt 4), .func (Fn.func 76) #[] #[.pointer (some ⟨w4.heap.size, 0, none⟩)], .func (Fn.func 77) #[] #[.pointer (some ⟨w4.heap.size, 0, none⟩)]] ++ ([sv (gwAt 5), .func (Fn.func 76) #[] #[.pointer (some ⟨w5.heap.size, 0, none⟩)], .func (Fn.func 77) #[] #[.pointer (some ⟨w5.heap.size, 0, none⟩)]] ++ ([sv (gwAt 6), .func (Fn.func 76) #[] #[.pointer (some ⟨w6.heap.size, 0, none⟩)], .func (Fn.func 77) #[] #[.pointer (some ⟨w6.heap.size, 0, none⟩)]] ++ ([sv (gwAt 7), .func (Fn.func 76) #[] #[.pointer (some ⟨w7.heap.size, 0, none⟩)], .func (Fn.func 77) #[] #[.pointer (some ⟨w7.heap.size, 0, none⟩)]] ++ ([sv (gwAt 8), .func (Fn.func 76) #[] #[.pointer (some ⟨w8.heap.size, 0, none⟩)], .func (Fn.func 77) #[] #[.pointer (some ⟨w8.heap.size, 0, none⟩)]] ++ ([sv (gwAt 9), .func (Fn.func 76) #[] #[.pointer (some ⟨w9.heap.size, 0, none⟩)], .func (Fn.func 77) #[] #[.pointer (some ⟨w9.heap.size, 0, none⟩)]] ++ ([sv (gwAt 10), .func (Fn.func 76) #[] #[.pointer (some ⟨w10.heap.size, 0, none⟩)], .func (Fn.func 77) #[] #[.pointer (some ⟨w10.heap.size, 0, none⟩)]] ++ ([sv (gwAt 11), .func (Fn.func 74) #[] #[.pointer (some ⟨w11.heap.size, 0, none⟩)], .func (Fn.func 75) #[] #[.pointer (some ⟨w11.heap.size, 0, none⟩)]] ++ ([sv (gwAt 12), .func (Fn.func 74) #[] #[.pointer (some ⟨w12.heap.size, 0, none⟩)], .func (Fn.func 75) #[] #[.pointer (some ⟨w12.heap.size, 0, none⟩)]] ++ ([sv (gwAt 13), .func (Fn.func 74) #[] #[.pointer (some ⟨w13.heap.size, 0, none⟩)], .func (Fn.func 75) #[] #[.pointer (some ⟨w13.heap.size, 0, none⟩)]] ++ ([sv (gwAt 14), .func (Fn.func 74) #[] #[.pointer (some ⟨w14.heap.size, 0, none⟩)], .func (Fn.func 75) #[] #[.pointer (some ⟨w14.heap.size, 0, none⟩)]] ++ ([sv (gwAt 15), .func (Fn.func 74) #[] #[.pointer (some ⟨w15.heap.size, 0, none⟩)], .func (Fn.func 75) #[] #[.pointer (some ⟨w15.heap.size, 0, none⟩)]] ++ ([sv (gwAt 16), .func (Fn.func 74) #[] #[.pointer (some ⟨w16.heap.size, 0, none⟩)], .func (Fn.func 75) #[] #[.pointer (some ⟨w16.heap.size, 0, none⟩)]] ++ ([sv (gwAt 17), .func (Fn.func 74) #[] #[.pointer (some ⟨w17.heap.size, 0, none⟩)], .func (Fn.func 75) #[] #[.pointer (some ⟨w17.heap.size, 0, none⟩)]])))))))))))))))))) 67 → Kp w18 wz → ∃ b, Value.slice (some ⟨w18.heap.size, 0, none⟩) 18 18 = Value.slice (some ⟨b, 0, none⟩) 18 18 ∧ GTy w.heap.size wz b ∧ Kp w wz by
    obtain ⟨b, hb, h1, h3⟩ := H _ (Blk.new w18 _ _) ((Kp.refl _).alloc _)
    exact ⟨b, congrArg Ending.returned hb, h1, h3⟩
  intro wz bz kwz
  have q18 := kwz
  have q17 := k18.trans q18
  have q16 := k17.trans q17
  have q15 := k16.trans q16
  have q14 := k15.trans q15
  have q13 := k14.trans q14
  have q12 := k13.trans q13
  have q11 := k12.trans q12
  have q10 := k11.trans q11
  have q9 := k10.trans q10
  have q8 := k9.trans q9
  have q7 := k8.trans q8
  have q6 := k7.trans q7
  have q5 := k6.trans q6
  have q4 := k5.trans q5
  have q3 := k4.trans q4
  have q2 := k3.trans q3
  have q1 := k2.trans q2
  have q0 := k1.trans q1
  refine ⟨w18.heap.size, rfl, ⟨_, (((((((((((((((((k1.trans k2).trans k3).trans k4).trans k5).trans k6).trans k7).trans k8).trans k9).trans k10).trans k11).trans k12).trans k13).trans k14).trans k15).trans k16).trans k17).trans k18).size, bz, fun i hi => ?_⟩, q0⟩
  rcases cases18 hi with rfl | rfl | rfl | rfl | rfl | rfl | rfl | rfl | rfl | rfl | rfl | rfl | rfl | rfl | rfl | rfl | rfl | rfl
  · exact ⟨w.heap.size, _, by decide, Nat.le_refl _, b1.kp q1, rfl, rfl, rfl⟩
  · exact ⟨w1.heap.size, _, by decide, k1.size, b2.kp q2, rfl, rfl, rfl⟩
  · exact ⟨w2.heap.size, _, by decide, (k1.trans k2).size, b3.kp q3, rfl, rfl, rfl⟩
  · exact ⟨w3.heap.size, _, by decide, ((k1.trans k2).trans k3).size, b4.kp q4, rfl, rfl, rfl⟩
  · exact ⟨w4.heap.size, _, by decide, (((k1.trans k2).trans k3).trans k4).size, b5.kp q5, rfl, rfl, rfl⟩
  · exact ⟨w5.heap.size, _, by decide, ((((k1.trans k2).trans k3).trans k4).trans k5).size, b6.kp q6, rfl, rfl, rfl⟩
  · exact ⟨w6.heap.size, _, by decide, (((((k1.trans k2).trans k3).trans k4).trans k5).trans k6).size, b7.kp q7, rfl, rfl, rfl⟩
  · exact ⟨w7.heap.size, _, by decide, ((((((k1.trans k2).trans k3).trans k4).trans k5).trans k6).trans k7).size, b8.kp q8, rfl, rfl, rfl⟩
  · exact ⟨w8.heap.size, _, by decide, (((((((k1.trans k2).trans k3).trans k4).trans k5).trans k6).trans k7).trans k8).size, b9.kp q9, rfl, rfl, rfl⟩
  · exact ⟨w9.heap.size, _, by decide, ((((((((k1.trans k2).trans k3).trans k4).trans k5).trans k6).trans k7).trans k8).trans k9).size, b10.kp q10, rfl, rfl, rfl⟩
  · exact ⟨w10.heap.size, _, by decide, (((((((((k1.trans k2).trans k3).trans k4).trans k5).trans k6).trans k7).trans k8).trans k9).trans k10).size, b11.kp q11, rfl, rfl, rfl⟩
  · exact ⟨w11.heap.size, _, by decide, ((((((((((k1.trans k2).trans k3).trans k4).trans k5).trans k6).trans k7).trans k8).trans k9).trans k10).trans k11).size, b12.kp q12, rfl, rfl, rfl⟩
  · exact ⟨w12.heap.size, _, by decide, (((((((((((k1.trans k2).trans k3).trans k4).trans k5).trans k6).trans k7).trans k8).trans k9).trans k10).trans k11).trans k12).size, b13.kp q13, rfl, rfl, rfl⟩
  · exact ⟨w13.heap.size, _, by decide, ((((((((((((k1.trans k2).trans k3).trans k4).trans k5).trans k6).trans k7).trans k8).trans k9).trans k10).trans k11).trans k12).trans k13).size, b14.kp q14, rfl, rfl, rfl⟩
  · exact ⟨w14.heap.size, _, by decide, (((((((((((((k1.trans k2).trans k3).trans k4).trans k5).trans k6).trans k7).trans k8).trans k9).trans k10).trans k11).trans k12).trans k13).trans k14).size, b15.kp q15, rfl, rfl, rfl⟩
  · exact ⟨w15.heap.size, _, by decide, ((((((((((((((k1.trans k2).trans k3).trans k4).trans k5).trans k6).trans k7).trans k8).trans k9).trans k10).trans k11).trans k12).trans k13).trans k14).trans k15).size, b16.kp q16, rfl, rfl, rfl⟩
  · exact ⟨w16.heap.size, _, by decide, (((((((((((((((k1.trans k2).trans k3).trans k4).trans k5).trans k6).trans k7).trans k8).trans k9).trans k10).trans k11).trans k12).trans k13).trans k14).trans k15).trans k16).size, b17.kp q17, rfl, rfl, rfl⟩
  · exact ⟨w17.heap.size, _, by decide, ((((((((((((((((k1.trans k2).trans k3).trans k4).trans k5).trans k6).trans k7).trans k8).trans k9).trans k10).trans k11).trans k12).trans k13).trans k14).trans k15).trans k16).trans k17).size, b18.kp q18, rfl, rfl, rfl⟩
end Go.Proofs.YtaekeogaakogbaaGreatDoor
