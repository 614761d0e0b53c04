/- Pages that came in: lanes within pages, things within lanes. -/
import Derived.Test.YtkglkbkikgncoaaDoorDeep

namespace Go.Proofs.YtkglkbkikgncoaaDoor

open Go.ChangeShapes Go.WideShapes Go.ChangeAt Go.RowKit Go.Deep

theorem sl_of_dOk {α : Type} {w : World} {n : Nat} {ks : List DK} {f : α → List Value} {Q : α → Prop} (hof : ∀ cs, dOk w ks cs → ∃ x, cs = f x ∧ Q x) {v : Value} (h : (DK.sl n ks).ok w v) :
    ∃ (a : Option Addr) (len cap : Nat) (l : List α), v = .slice a len cap ∧ SlOk w n f a len cap l ∧ ∀ x, x ∈ l → Q x := by
  unfold DK.ok at h
  obtain ⟨a, len, cap, rfl, h1, h2, h3, h4⟩ := h
  obtain ⟨l, hll, hlp⟩ := list_of (P := fun i (x : α) => Q x ∧ ∀ b off, a = some ⟨b, off, none⟩ → ∀ (j : Nat) (u : Value), (f x)[j]? = some u → w.cell? ⟨b, off + i * n + j, none⟩ = some u) len (fun i hil => by
    obtain ⟨cs, _, hd, hc⟩ := h4 i hil
    obtain ⟨x, rfl, hq⟩ := hof cs hd
    exact ⟨x, hq, hc⟩)
  refine ⟨a, len, cap, l, rfl, ⟨hll, h1, h2, ?_⟩, fun x hx => by
    obtain ⟨i, hi', rfl⟩ := List.getElem_of_mem hx
    exact (hlp i l[i] (List.getElem?_eq_getElem hi')).1⟩
  rcases h3 with z | ⟨b, off, rfl, hb⟩
  · left; exact List.eq_nil_of_length_eq_zero (by omega)
  · right; exact ⟨b, off, rfl, hb, fun i x hx j u hu => (hlp i x hx).2 b off rfl j u hu⟩
theorem dOk_int {w : World} {k : IntKind} {ks : List DK} {cs : List Value} (h : dOk w (.int k :: ks) cs) : ∃ x vs, cs = .int k x :: vs ∧ (Lit.int k x).wf = true ∧ dOk w ks vs := by
  unfold dOk at h
  obtain ⟨v, vs, rfl, h1, h2⟩ := h
  unfold DK.ok at h1
  obtain ⟨x, rfl, hw⟩ := h1
  exact ⟨x, vs, rfl, hw, h2⟩
theorem dOk_sl {w : World} {n : Nat} {ks' ks : List DK} {cs : List Value} (h : dOk w (.sl n ks' :: ks) cs) : ∃ v vs, cs = v :: vs ∧ (DK.sl n ks').ok w v ∧ dOk w ks vs := by
  unfold dOk at h; exact h
theorem dOk_nil {w : World} {cs : List Value} (h : dOk w [] cs) : cs = [] := by unfold dOk at h; exact h

structure Put where
  k : Int
  n : Int
  l : Int
  y : Int
  h : Int
def Put.cells (x : Put) : List Value := [.int .i64 x.k, .int .i64 x.n, .int .i64 x.l, .int .i64 x.y, .int .i64 x.h]
def Put.ok (x : Put) : Prop := I64 x.k ∧ I64 x.n ∧ I64 x.l ∧ I64 x.y ∧ I64 x.h
/-- A lane: its header's numbers, and what it holds. -/
structure Lane where
  x : Int
  s : SlV Put
def Lane.cells (x : Lane) : List Value := [.int .i64 x.x, .slice x.s.a x.s.len x.s.cap]
def Lane.good (w : World) (x : Lane) : Prop := I64 x.x ∧ SlOk w 5 Put.cells x.s.a x.s.len x.s.cap x.s.l ∧ ∀ p, p ∈ x.s.l → p.ok
structure Page where
  s : SlV Lane
  t : Int
  f : Int
  l : Int
def Page.cells (x : Page) : List Value := [.slice x.s.a x.s.len x.s.cap, .int .i64 x.t, .int .i64 x.f, .int .i64 x.l]
def Page.good (w : World) (x : Page) : Prop := I64 x.t ∧ I64 x.f ∧ I64 x.l ∧ SlOk w 2 Lane.cells x.s.a x.s.len x.s.cap x.s.l ∧ ∀ y, y ∈ x.s.l → y.good w
theorem Lane.good.kp {w w' : World} {x : Lane} (h : x.good w) (k : Kp w w') : x.good w' := ⟨h.1, h.2.1.kp k, h.2.2⟩
theorem Page.good.kp {w w' : World} {x : Page} (h : x.good w) (k : Kp w w') : x.good w' := ⟨h.1, h.2.1, h.2.2.1, h.2.2.2.1.kp k, fun y hy => (h.2.2.2.2 y hy).kp k⟩
def putK : List DK := [.int .i64, .int .i64, .int .i64, .int .i64, .int .i64]
def laneK : List DK := [.int .i64, .sl 5 putK]
def pageK : List DK := [.sl 2 laneK, .int .i64, .int .i64, .int .i64]
theorem Put.of_cells {w : World} {cs : List Value} (h : dOk w putK cs) : ∃ x : Put, cs = x.cells ∧ x.ok := by
  obtain ⟨k, c1, rfl, w1, h⟩ := dOk_int h
  obtain ⟨n, c2, rfl, w2, h⟩ := dOk_int h
  obtain ⟨l, c3, rfl, w3, h⟩ := dOk_int h
  obtain ⟨y, c4, rfl, w4, h⟩ := dOk_int h
  obtain ⟨z, c5, rfl, w5, h⟩ := dOk_int h
  obtain rfl := dOk_nil h
  exact ⟨⟨k, n, l, y, z⟩, rfl, Open.i64_of w1, Open.i64_of w2, Open.i64_of w3, Open.i64_of w4, Open.i64_of w5⟩
theorem Lane.of_cells {w : World} {cs : List Value} (h : dOk w laneK cs) : ∃ x : Lane, cs = x.cells ∧ x.good w := by
  obtain ⟨x, c1, rfl, w1, h⟩ := dOk_int h
  obtain ⟨v, c2, rfl, h1, h⟩ := dOk_sl h
  obtain rfl := dOk_nil h
  obtain ⟨a, len, cap, l, rfl, hs, hq⟩ := sl_of_dOk (fun cs h => Put.of_cells h) h1
  exact ⟨⟨x, ⟨a, len, cap, l⟩⟩, rfl, Open.i64_of w1, hs, hq⟩
theorem Page.of_cells {w : World} {cs : List Value} (h : dOk w pageK cs) : ∃ x : Page, cs = x.cells ∧ x.good w := by
  obtain ⟨v, c0, rfl, h1, h⟩ := dOk_sl h
  obtain ⟨t, c1, rfl, w1, h⟩ := dOk_int h
  obtain ⟨f, c2, rfl, w2, h⟩ := dOk_int h
  obtain ⟨l, c3, rfl, w3, h⟩ := dOk_int h
  obtain rfl := dOk_nil h
  obtain ⟨a, len, cap, ls, rfl, hs, hq⟩ := sl_of_dOk (fun cs h => Lane.of_cells h) h1
  exact ⟨⟨⟨a, len, cap, ls⟩, t, f, l⟩, rfl, Open.i64_of w1, Open.i64_of w2, Open.i64_of w3, hs, hq⟩
theorem Open.deep_pages : Open.deepK Tryd.prog 8 23 = some [.sl 4 pageK] := by kernel_rfl
set_option maxRecDepth 100000 in
theorem Open.open_pages {H : Type} {enc : TypeId × Value → H} {w : World} {r : Reach} {b0 : Nat} {v : Value} {d : DataW H} {p : List MemPlace}
    (hv : Value.okWide Tryd.prog w r b0 23 v) (h : DataW.Trod enc Tryd.prog w 0 (fun _ => true) true 23 v d p) :
    ∃ x : SlV Page, v = x.v ∧ (SlOk w 4 Page.cells x.a x.len x.cap x.l ∧ ∀ y, y ∈ x.l → y.good w) := by
  have hd := Open.open_deep 8 Tryd.underlying23 Open.deep_pages hv h
  obtain ⟨v', vs, e, h1, h2⟩ := dOk_sl hd
  cases e
  obtain ⟨a, len, cap, l, rfl, hs, hq⟩ := sl_of_dOk (fun cs h => Page.of_cells h) h1
  exact ⟨⟨a, len, cap, l⟩, rfl, hs, hq⟩
end Go.Proofs.YtkglkbkikgncoaaDoor
