/- A slice of flat elements that came in: its header, what it holds as a list, how it is opened. -/
import Derived.Test.YtaekeogaakogbaaGreatDoorFlat

namespace Go.Proofs.YtaekeogaakogbaaGreatDoor

open Go.ChangeShapes Go.WideShapes Go.ChangeAt Go.RowKit Go.Deep

/-- The cells of the elements lie in w from (b, off) on, n an element. -/
def RowAt {α : Type} (w : World) (n : Nat) (enc : α → List Value) (b off : Nat) (l : List α) : Prop :=
  ∀ i x, l[i]? = some x → ∀ j v, (enc x)[j]? = some v → w.cell? ⟨b, off + i * n + j, none⟩ = some v
/-- A slice's header reads as the list l. -/
def SlOk {α : Type} (w : World) (n : Nat) (enc : α → List Value) (a : Option Addr) (len cap : Nat) (l : List α) : Prop :=
  l.length = len ∧ len ≤ cap ∧ cap ≤ maxLen ∧ (l = [] ∨ ∃ b off, a = some ⟨b, off, none⟩ ∧ b < w.heap.size ∧ RowAt w n enc b off l)
theorem RowAt.kp {α : Type} {w w' : World} {n : Nat} {enc : α → List Value} {b off : Nat} {l : List α} (h : RowAt w n enc b off l) (k : Kp w w') (hb : b < w.heap.size) : RowAt w' n enc b off l :=
  fun i x hx j v hv => (k.cell (p := ⟨b, off + i * n + j, none⟩) hb).trans (h i x hx j v hv)
theorem SlOk.kp {α : Type} {w w' : World} {n : Nat} {enc : α → List Value} {a : Option Addr} {len cap : Nat} {l : List α} (h : SlOk w n enc a len cap l) (k : Kp w w') : SlOk w' n enc a len cap l := by
  obtain ⟨h1, h2, h3, h4⟩ := h
  refine ⟨h1, h2, h3, ?_⟩
  rcases h4 with h4 | ⟨b, off, ha, hb, hr⟩
  · exact .inl h4
  · exact .inr ⟨b, off, ha, Nat.lt_of_lt_of_le hb k.size, hr.kp k hb⟩
theorem list_of {α : Type} {P : Nat → α → Prop} : ∀ n : Nat, (∀ i, i < n → ∃ x, P i x) → ∃ l : List α, l.length = n ∧ ∀ i x, l[i]? = some x → P i x := by
  intro n
  induction n with
  | zero => intro _; exact ⟨[], rfl, fun i x h => by simp at h⟩
  | succ n ih =>
    intro h
    obtain ⟨l, hl, hp⟩ := ih (fun i hi => h i (by omega))
    obtain ⟨x, hx⟩ := h n (by omega)
    refine ⟨l ++ [x], by simp [hl], fun i y hy => ?_⟩
    rcases Nat.lt_or_ge i n with c | c
    · rw [List.getElem?_append_left (by omega)] at hy; exact hp i y hy
    · rw [List.getElem?_append_right (by omega), hl] at hy
      have : i - n = 0 := by
        rcases Nat.eq_zero_or_pos (i - n) with z | z
        · exact z
        · rw [List.getElem?_eq_none (by simp; omega)] at hy; cases hy
      rw [this] at hy
      obtain rfl : i = n := by omega
      simp only [List.getElem?_cons_zero, Option.some.injEq] at hy
      subst hy; exact hx

/-- A slice value that reads as a list. -/
structure SlV (α : Type) where
  a : Option Addr
  len : Nat
  cap : Nat
  l : List α
def SlV.v {α : Type} (s : SlV α) : Value := .slice s.a s.len s.cap

namespace Open

section

variable {H : Type} {enc : TypeId × Value → H} {P : Program} {w : World}

theorem open_sl {α : Type} {f : α → List Value} {ok : α → Prop} {r : Reach} {b0 : Nat} {t e n : Nat} {ks : List FK} {v : Value} {d : DataW H} {p : List MemPlace} (m : Nat)
    (ht : P.underlying t = some (.slice e)) (hn : P.cellsOf e = n) (hpos : 0 < n) (hk : flatK P m e = some ks) (hof : ∀ cs, allOk ks cs → ∃ x : α, cs = f x ∧ ok x)
    (hv : Value.okWide P w r b0 t v) (h : DataW.Trod enc P w 0 (fun _ => true) true t v d p) :
    ∃ (a : Option Addr) (len cap : Nat) (l : List α), v = .slice a len cap ∧ SlOk w n f a len cap l ∧ ∀ x, x ∈ l → ok x := by
  obtain ⟨a0, len, cap, rfl⟩ := okWide_slice ht hv
  obtain ⟨fuel, hf⟩ := h
  rcases open_slice ht hf with ⟨hc, _⟩ | ⟨a, len', cap', m', n', D, Pl, hc, _, hl, hm, hmm, _, hi⟩
  · simp only [Value.cells, List.cons.injEq, and_true, Value.slice.injEq] at hc
    obtain ⟨rfl, rfl, rfl⟩ := hc
    exact ⟨none, 0, 0, [], rfl, ⟨rfl, by omega, by unfold maxLen; omega, .inl rfl⟩, fun x hx => by cases hx⟩
  · simp only [Value.cells, List.cons.injEq, and_true, Value.slice.injEq] at hc
    obtain ⟨rfl, rfl, rfl⟩ := hc
    rw [if_pos rfl] at hmm
    subst hmm
    obtain ⟨l, hll, hlp⟩ := list_of (P := fun i (x : α) => ok x ∧ ∀ j v, (f x)[j]? = some v → w.cell? ((a.add (i * n)).add j) = some v) len (fun i hil => by
      obtain ⟨cs', hcs, hx⟩ := hi i (by omega)
      obtain ⟨x, rfl, hok⟩ := hof cs' (flat_ok m e ks _ _ _ hk hx)
      obtain ⟨_, hlen, hcell⟩ := World.cells?_some hcs
      rw [hn] at hlen hcell
      refine ⟨x, hok, fun j v hj => ?_⟩
      have hjn : j < n := by
        rw [← hlen]; exact (List.getElem?_eq_some_iff.1 hj).1
      rw [hcell j hjn, hj])
    refine ⟨some a, len, _, l, rfl, ⟨hll, hl, hm, ?_⟩, fun x hx => by
      obtain ⟨i, hi', rfl⟩ := List.getElem_of_mem hx
      exact (hlp i l[i] (List.getElem?_eq_getElem hi')).1⟩
    rcases Nat.eq_zero_or_pos len with z | z
    · left; exact List.eq_nil_of_length_eq_zero (by omega)
    · right
      obtain ⟨cs', hcs, _⟩ := hi 0 (by omega)
      obtain ⟨_, hlen, hcell⟩ := World.cells?_some hcs
      rw [hn] at hlen hcell
      have h0 := hcell 0 hpos
      rw [List.getElem?_eq_getElem (by omega)] at h0
      obtain ⟨b, off, spot⟩ := a
      have hs : spot = none := by simpa [Addr.add] using World.cell?_spot h0
      subst hs
      have hb := World.block_lt_of_cell? w _ h0
      refine ⟨b, off, rfl, by simpa [Addr.add] using hb, fun i x hx j v hv => ?_⟩
      have := (hlp i x hx).2 j v hv
      rwa [Go.WideShapes.add_plain, Go.WideShapes.add_plain] at this
end

end Open

end Go.Proofs.YtaekeogaakogbaaGreatDoor
