/- Pieces side by side: plain laws; the three places of SumsJoin. -/
import Derived.Test.YteipfamaclildaaSumsAwake

namespace Go.Proofs.Yteipfamaclildaa

open Go.ChangeShapes Go.WideShapes Go.ChangeAt Go.RowKit

structure Three where
  a0 : Int
  a1 : Int
  a2 : Int
/-- Its cells. -/
def Three.cells (x : Three) : List Value := [.int .i64 x.a0, .int .i64 x.a1, .int .i64 x.a2]
/-- The value. -/
def Three.v (x : Three) : Value := .agg #[.int .i64 x.a0, .int .i64 x.a1, .int .i64 x.a2]
def Three.ok (x : Three) : Prop := I64 x.a0 ∧ I64 x.a1 ∧ I64 x.a2
theorem Three.of_cells {cs : List Value} (h : Open.allOk [.int .i64, .int .i64, .int .i64] cs) : ∃ x : Three, cs = x.cells ∧ x.ok := by
  obtain _ | ⟨c0, cs⟩ := cs; · exact absurd h id
  obtain _ | ⟨c1, cs⟩ := cs; · exact absurd h.2 id
  obtain _ | ⟨c2, cs⟩ := cs; · exact absurd h.2.2 id
  obtain _ | ⟨c, cs⟩ := cs; rotate_left; · exact absurd h.2.2.2 id
  obtain ⟨⟨x0, rfl, w0⟩, ⟨x1, rfl, w1⟩, ⟨x2, rfl, w2⟩, _⟩ := h
  exact ⟨⟨x0, x1, x2⟩, rfl, ⟨Open.i64_of w0, Open.i64_of w1, Open.i64_of w2⟩⟩
theorem Open.flat_three : Open.flatK Try.prog 4 42 = some [.int .i64, .int .i64, .int .i64] := by kernel_rfl
set_option maxRecDepth 100000 in
theorem Open.open_three {H : Type} {enc : TypeId × Value → H} {w : World} {base : Nat} {spare : Nat → Bool} {held : Bool} {r : Reach} {b0 : Nat} {v : Value} {d : DataW H} {p : List MemPlace}
    (hv : Value.okWide Try.prog w r b0 42 v) (h : DataW.Trod enc Try.prog w base spare held 42 v d p) : ∃ x : Three, v = x.v ∧ x.ok := by
  obtain ⟨cs, hc, hk⟩ := Open.open_flat 4 Open.flat_three (by rw [Try.underlying42]; rfl) hv h
  subst hc
  obtain ⟨x, rfl, hx⟩ := Three.of_cells hk
  exact ⟨x, rfl, hx⟩
def Open.zero_three : Value := .agg #[.int .i64 0, .int .i64 0, .int .i64 0]

theorem piece_join (l : List Item) {x y z : Int} (h1 : x ≤ y) (h2 : y ≤ z) : piece l x z = piece l x y ++ piece l y z := by
  unfold piece
  obtain ⟨i, hi⟩ : ∃ i, x.toNat = i := ⟨_, rfl⟩
  obtain ⟨j, hj⟩ : ∃ j, y.toNat = j := ⟨_, rfl⟩
  obtain ⟨k, hk⟩ : ∃ k, z.toNat = k := ⟨_, rfl⟩
  rw [hi, hj, hk]
  have a : i ≤ j := by omega
  have b : j ≤ k := by omega
  have e : l.take k = l.take j ++ (l.take k).drop j := by
    have h : (l.take k).take j = l.take j := by rw [List.take_take, Nat.min_eq_left b]
    rw [← h, List.take_append_drop]
  rcases Nat.lt_or_ge l.length j with hl | hl
  · rw [show (l.take k).drop j = [] from List.drop_eq_nil_of_le (by rw [List.length_take]; omega), List.append_nil]
    rw [List.take_of_length_le (show l.length ≤ k by omega), List.take_of_length_le (show l.length ≤ j by omega)]
  · conv => lhs; rw [e]
    rw [List.drop_append_of_le_length (by rw [List.length_take]; omega)]
/-- The heights of totals. -/
def nats : List Tot → Int
  | [] => 0
  | t :: l => t.nat + nats l
theorem nats_append : ∀ l r : List Tot, nats (l ++ r) = nats l + nats r
  | [], r => by simp [nats]
  | x :: l, r => by rw [List.cons_append, nats, nats_append l r, nats, Int.add_assoc]
theorem bsum_nats : ∀ p : List Item, bsum p + nats (glues p) = (psum p).nat
  | [] => rfl
  | x :: p => by
    have ih := bsum_nats p
    unfold glues at *
    rw [bsum, psum, List.filter_cons]
    by_cases h2 : x.k = 2
    · rw [if_pos (by simp [h2]), List.map_cons, nats]
      simp only [boxI, totI, Tot.plus, h2]
      simp
      omega
    · rw [if_neg (by simp [h2])]
      simp only [boxI, totI, Tot.plus, h2]
      split
      · simp; omega
      · simp [Tot.zero]; omega
theorem glues_pos : ∀ p : List Item, fairL p = true → ∀ t ∈ glues p, 0 ≤ t.nat := by
  intro p hp t ht
  unfold glues at ht
  obtain ⟨x, hx, rfl⟩ := List.mem_map.1 ht
  have hx' := (List.mem_filter.1 hx).1
  unfold fairL at hp
  exact (fairT_within (List.all_eq_true.1 hp x hx')).1.1
theorem nats_pos : ∀ l : List Tot, (∀ t ∈ l, 0 ≤ t.nat) → 0 ≤ nats l
  | [], _ => by simp [nats]
  | t :: l, h => by
    have h1 := h t (by simp)
    have h2 := nats_pos l (fun u hu => h u (by simp [hu]))
    rw [nats]; omega
theorem nats_take (l : List Tot) (h : ∀ t ∈ l, 0 ≤ t.nat) (k : Nat) : 0 ≤ nats (l.take k) ∧ nats (l.take k) ≤ nats l := by
  have h1 := nats_pos (l.take k) (fun t ht => h t (List.mem_of_mem_take ht))
  have h2 := nats_pos (l.drop k) (fun t ht => h t (List.mem_of_mem_drop ht))
  have h3 := nats_append (l.take k) (l.drop k)
  rw [List.take_append_drop] at h3
  omega
theorem nats_succ (l : List Tot) {k : Nat} {t : Tot} (h : l[k]? = some t) : nats (l.take (k + 1)) = nats (l.take k) + t.nat := by
  rw [List.take_add_one, h, nats_append]
  simp [nats]
end Go.Proofs.Yteipfamaclildaa
