/- Part 4 of the proof: Lines of a galley, plain: words, numbers that are written as they are read, things. Lines of a galley, plain: the thing of a text, by the program and by the document. A galley's lines: many, parse. A galley's lines: parse. -/
import Derived.Test.YteadhacoglcbfaaDoorZ3
import Derived.Lib.SplitLaws
import Derived.Lib.ParseIntBCases
import Derived.Laws.IdiomStrings
import Derived.Laws.EntriesVeiled
namespace Go.Proofs.YteadhacoglcbfaaDoor

open Go.RowKit

/-- The words between blanks. -/
def splitW : List UInt8 → List (List UInt8)
  | [] => [[]]
  | c :: r => if c = 32 then [] :: splitW r else match splitW r with
    | w :: ws => (c :: w) :: ws
    | [] => [[c]]
theorem splitW_ne : ∀ s, splitW s ≠ []
  | [] => by simp [splitW]
  | c :: r => by
    unfold splitW
    split
    · simp
    · split <;> simp
theorem index32 (c : UInt8) (r : List UInt8) : Lib.index (c :: r) [32] = if c = 32 then 0 else if Lib.index r [32] = -1 then -1 else Lib.index r [32] + 1 := by
  conv => lhs; unfold Lib.index
  by_cases h : c = 32
  · subst h; simp [List.isPrefixOf]
  · have : ([32] : List UInt8).isPrefixOf (c :: r) = false := by
      simp only [List.isPrefixOf, Bool.and_true, beq_eq_false_iff_ne]
      exact fun e => h e.symm
    rw [this, if_neg h]
    by_cases h2 : Lib.index r [32] = -1 <;> simp [h2]
theorem split_W : ∀ s : List UInt8, Lib.split s [32] = splitW s
  | [] => by
    unfold Lib.split
    have : Lib.count [] [32] = 0 := by decide
    rw [this]; rfl
  | c :: r => by
    have ih := split_W r
    have h32 := index32 c r
    by_cases h : c = 32
    · rw [if_pos h] at h32
      have hc := Lib.count_hit (s := c :: r) (sub := [32]) (i := 0) (by simp) h32
      unfold Lib.split splitW
      rw [if_pos h, hc, ← ih, Nat.add_comm]
      unfold Lib.splitK Lib.split
      rw [h32]
      simp
    · rw [if_neg h] at h32
      by_cases h2 : Lib.index r [32] = -1
      · rw [if_pos h2] at h32
        unfold Lib.split
        rw [Lib.count_miss h32]
        unfold Lib.split at ih
        rw [Lib.count_miss h2] at ih
        unfold splitW
        rw [if_neg h, ← ih]
        rfl
      · rw [if_neg h2] at h32
        have hge := Lib.index_ge r [32]
        obtain ⟨i, hi⟩ : ∃ i : Nat, Lib.index r [32] = i := ⟨(Lib.index r [32]).toNat, by omega⟩
        rw [hi] at h32
        have hc1 := Lib.count_hit (s := c :: r) (sub := [32]) (i := i + 1) (by simp) (by rw [h32]; omega)
        have hc2 := Lib.count_hit (s := r) (sub := [32]) (i := i) (by simp) hi
        unfold Lib.split at ih ⊢
        rw [hc2, Nat.add_comm] at ih
        rw [hc1, Nat.add_comm]
        unfold splitW
        rw [if_neg h, ← ih]
        unfold Lib.splitK
        have e1 : ((i : Int) + 1 == -1) = false := by rw [beq_eq_false_iff_ne]; omega
        have e2 : ((i : Int) == -1) = false := by rw [beq_eq_false_iff_ne]; omega
        have e3 : ((i : Int) + 1).toNat = i + 1 := by omega
        rw [hi, h32, e1, e2, e3]
        simp
/-- What strings.Split gives. -/
theorem split_run (s : List UInt8) : (Lib.splitB ⟨#[32]⟩ 0 (Lib.countB ⟨s.toArray⟩ ⟨#[32]⟩) ⟨s.toArray⟩).map Value.string = (splitW s).map sv ∧ Lib.countB ⟨s.toArray⟩ ⟨#[32]⟩ + 1 = (splitW s).length := by
  have h := Lib.splitB_data ⟨#[32]⟩ 0 (Lib.countB ⟨s.toArray⟩ ⟨#[32]⟩) ⟨s.toArray⟩
  have hs : Lib.splitK [32] 0 (Lib.countB ⟨s.toArray⟩ ⟨#[32]⟩) s = splitW s := split_W s
  have h' : (Lib.splitB ⟨#[32]⟩ 0 (Lib.countB ⟨s.toArray⟩ ⟨#[32]⟩) ⟨s.toArray⟩).map (·.data.toList) = splitW s := h.trans hs
  have hl := Lib.splitB_all ⟨#[32]⟩ (by decide) 0 _ ⟨s.toArray⟩ rfl
  refine ⟨?_, ?_⟩
  · rw [← h', List.map_map]
    rfl
  · rw [← h', List.length_map, hl]
/-- The number that is written so. -/
def canon (x : List UInt8) : Option Int := match Lib.parseIntB 64 x with
  | .ok v => if Lib.itoa v = x then some v else none
  | _ => none
theorem parseM_dec (M : Nat) (hM : M ≤ 18446744073709551615) : ∀ (u : Nat), u ≤ M → ∀ rest, Lib.parseUintM M 0 (Lib.decDigits u ++ rest) = Lib.parseUintM M u rest := by
  intro u
  induction u using Nat.strongRecOn with
  | _ u ih =>
    intro hu rest
    have step : ∀ (a d : Nat), d < 10 → a * 10 + d ≤ M → Lib.parseUintM M a (UInt8.ofNat (48 + d) :: rest) = Lib.parseUintM M (a * 10 + d) rest := fun a d hd ha => by
      have e : (UInt8.ofNat (48 + d)).toNat = 48 + d := by rw [UInt8.toNat_ofNat']; omega
      conv => lhs; unfold Lib.parseUintM
      rw [e, if_pos (by omega), if_neg (by omega), Nat.add_sub_cancel_left, if_neg (by omega)]
    rw [Lib.decDigits]
    split
    · rename_i h
      have := step 0 u h (by omega)
      simpa using this
    · rename_i h
      rw [List.append_assoc, ih (u / 10) (by omega) (by omega)]
      have := step (u / 10) (u % 10) (by omega) (by omega)
      rw [List.singleton_append, this]
      congr 1; omega
theorem dec_byte {u : Nat} {c : UInt8} : c ∈ Lib.decDigits u → 48 ≤ c.toNat ∧ c.toNat ≤ 57 := by
  induction u using Nat.strongRecOn with
  | _ u ih =>
    intro hc
    have one : ∀ d : Nat, d < 10 → c = UInt8.ofNat (48 + d) → 48 ≤ c.toNat ∧ c.toNat ≤ 57 := fun d hd e => by
      have e' : (UInt8.ofNat (48 + d)).toNat = 48 + d := by rw [UInt8.toNat_ofNat']; omega
      rw [e, e']; omega
    rw [Lib.decDigits] at hc
    split at hc
    · rename_i h
      simp only [List.mem_singleton] at hc
      exact one u h hc
    · rename_i h
      rcases List.mem_append.1 hc with hc | hc
      · exact ih (u / 10) (by omega) hc
      · simp only [List.mem_singleton] at hc
        exact one (u % 10) (by omega) hc
theorem dec_ne (u : Nat) : Lib.decDigits u ≠ [] := by
  rw [Lib.decDigits]; split <;> simp
theorem parse_itoa {v : Int} (h : I64 v) : Lib.parseIntB 64 (Lib.itoa v) = .ok v := by
  unfold I64 at h
  unfold Lib.itoa
  by_cases hv : v < 0
  · rw [if_pos hv]
    unfold Lib.parseIntB
    have e45 : (45 : UInt8).toNat = 45 := rfl
    have hp : Lib.parseUintB 64 (Lib.decDigits v.natAbs) = .ok v.natAbs := by
      unfold Lib.parseUintB
      rw [if_neg (dec_ne _)]
      have := parseM_dec (2 ^ 64 - 1) (by decide) v.natAbs (by omega) []
      rw [List.append_nil] at this
      rw [this]; rfl
    simp only [e45, or_true, if_true, hp]
    have hb1 : ¬ 2 ^ (64 - 1) < v.natAbs := by omega
    simp only [hb1, not_true_eq_false, false_and, and_false, if_false]
    congr 1; omega
  · rw [if_neg hv]
    have hne := dec_ne v.toNat
    obtain ⟨c, r, hcr⟩ := List.exists_cons_of_ne_nil hne
    have hc := dec_byte (u := v.toNat) (c := c) (by rw [hcr]; exact List.mem_cons_self)
    have hp : Lib.parseUintB 64 (Lib.decDigits v.toNat) = .ok v.toNat := by
      unfold Lib.parseUintB
      rw [if_neg hne]
      have := parseM_dec (2 ^ 64 - 1) (by decide) v.toNat (by omega) []
      rw [List.append_nil] at this
      rw [this]; rfl
    rw [hcr] at hp ⊢
    unfold Lib.parseIntB
    simp only
    rw [if_neg (show ¬ (c.toNat = 43 ∨ c.toNat = 45) by omega), hp]
    have hn : ¬ c.toNat = 45 := by omega
    have hb : ¬ 2 ^ (64 - 1) ≤ v.toNat := by omega
    simp only [hn, hb, not_false_eq_true, and_false, false_and, if_false]
    congr 1; omega
theorem canon_itoa {v : Int} (h : I64 v) : canon (Lib.itoa v) = some v := by
  unfold canon
  rw [parse_itoa h]
  simp
theorem canon_ok {x : List UInt8} {v : Int} (h : canon x = some v) : Lib.itoa v = x := by
  unfold canon at h
  split at h
  · split at h
    · cases h; assumption
    · cases h
  · cases h
end Go.Proofs.YteadhacoglcbfaaDoor
namespace Go.Proofs.YteadhacoglcbfaaDoor

open Go.RowKit

abbrev wBox : List UInt8 := [98, 111, 120]
abbrev wFloat : List UInt8 := [102, 108, 111, 97, 116]
abbrev wRule : List UInt8 := [114, 117, 108, 101]
abbrev wLine : List UInt8 := [108, 105, 110, 101]
abbrev wThing : List UInt8 := [116, 104, 105, 110, 103]
/-- A line's word and numbers, if all of these are numbers. -/
def parseP (s : List UInt8) : Option (List UInt8 × List Int) := match splitW s with
  | [] => none
  | w :: ws => (ws.mapM canon).map fun ns => (w, ns)
def putOf (w : List UInt8) (ns : List Int) : Option Put :=
  if w = wBox then (match ns with | [n, y, h] => some ⟨1, n, 0, y, h⟩ | _ => none)
  else if w = wFloat then (match ns with | [n, y, h] => some ⟨2, n, 0, y, h⟩ | _ => none)
  else if w = wRule then (match ns with | [y, h] => some ⟨3, 0, 0, y, h⟩ | _ => none)
  else if w = wLine then (match ns with | [n, l, y, h] => some ⟨4, n, l, y, h⟩ | _ => none)
  else if w = wThing then (match ns with | [k, n, l, y, h] => if k < 1 ∨ 4 < k then some ⟨k, n, l, y, h⟩ else none | _ => none)
  else none
def putP (s : List UInt8) : Option Put := match parseP s with
  | none => none
  | some (w, ns) => putOf w ns
theorem splitW_one : ∀ {a : List UInt8}, (32 : UInt8) ∉ a → splitW a = [a]
  | [], _ => rfl
  | c :: r, h => by
    have h1 : c ≠ 32 := fun e => h (by rw [e]; exact List.mem_cons_self)
    have ih := splitW_one (a := r) (fun hr => h (List.mem_cons_of_mem _ hr))
    unfold splitW
    rw [if_neg h1, ih]
theorem splitW_app (b : List UInt8) : ∀ {a : List UInt8}, (32 : UInt8) ∉ a → splitW (a ++ 32 :: b) = a :: splitW b
  | [], _ => by rw [List.nil_append]; conv => lhs; unfold splitW
                simp
  | c :: r, h => by
    have h1 : c ≠ 32 := fun e => h (by rw [e]; exact List.mem_cons_self)
    have ih := splitW_app b (a := r) (fun hr => h (List.mem_cons_of_mem _ hr))
    rw [List.cons_append]
    conv => lhs; unfold splitW
    rw [if_neg h1, ih]
theorem no32_itoa (v : Int) : (32 : UInt8) ∉ Lib.itoa v := by
  unfold Lib.itoa
  split
  · intro h
    rcases List.mem_cons.1 h with h | h
    · cases h
    · have := dec_byte h
      have e : (32 : UInt8).toNat = 32 := rfl
      omega
  · intro h
    have := dec_byte h
    have e : (32 : UInt8).toNat = 32 := rfl
    omega
theorem splitW_line {wd : List UInt8} (hw : (32 : UInt8) ∉ wd) : ∀ ns : List Int, splitW (lineL wd ns) = wd :: ns.map Lib.itoa := by
  intro ns
  induction ns generalizing wd with
  | nil => unfold lineL; rw [List.flatMap_nil, List.append_nil, splitW_one hw]; rfl
  | cons n ns ih =>
    have ih' := ih (wd := Lib.itoa n) (no32_itoa n)
    unfold lineL at ih' ⊢
    rw [List.flatMap_cons]
    unfold numL at ih' ⊢
    rw [List.cons_append, splitW_app _ hw, ih']
    rfl
theorem joinW : ∀ {s w : List UInt8} {ws : List (List UInt8)}, splitW s = w :: ws → s = w ++ ws.flatMap fun x => 32 :: x
  | [], w, ws, h => by
    unfold splitW at h
    cases h; rfl
  | c :: r, w, ws, h => by
    unfold splitW at h
    split at h
    · rename_i hc
      cases h
      obtain ⟨w', ws', e⟩ := List.exists_cons_of_ne_nil (splitW_ne r)
      rw [e, List.nil_append, List.flatMap_cons, List.cons_append, hc, ← joinW e]
    · split at h
      · rename_i w' ws' e
        cases h
        rw [List.cons_append, ← joinW e]
      · rename_i e
        exact absurd e (splitW_ne r)
theorem mapM_canon : ∀ {ws : List (List UInt8)} {ns : List Int}, ws.mapM canon = some ns → ws = ns.map Lib.itoa
  | [], ns, h => by
    simp at h
    subst h; rfl
  | x :: ws, ns, h => by
    simp only [List.mapM_cons, Option.bind_eq_bind, Option.bind_eq_some_iff, Option.pure_def, Option.some.injEq] at h
    obtain ⟨v, hv, vs, hvs, rfl⟩ := h
    rw [List.map_cons, canon_ok hv, ← mapM_canon hvs]
theorem canon_map : ∀ {ns : List Int}, (∀ n, n ∈ ns → I64 n) → (ns.map Lib.itoa).mapM canon = some ns
  | [], _ => rfl
  | n :: ns, h => by
    rw [List.map_cons, List.mapM_cons, canon_itoa (h n List.mem_cons_self), canon_map (ns := ns) fun x hx => h x (List.mem_cons_of_mem _ hx)]
    rfl
theorem canon_i64 {x : List UInt8} {v : Int} (h : canon x = some v) : I64 v := by
  unfold canon at h
  split at h
  · rename_i v' hp
    split at h
    · cases h
      unfold Lib.parseIntB at hp
      unfold I64
      split at hp
      · cases hp
      · simp only at hp
        split at hp
        · cases hp
        · cases hp
        · split at hp
          · cases hp
          · split at hp
            · cases hp
            · cases hp
              split <;> omega
    · cases h
  · cases h
theorem mapM_i64 : ∀ {ws : List (List UInt8)} {ns : List Int}, ws.mapM canon = some ns → ∀ n, n ∈ ns → I64 n
  | [], ns, h => by
    simp at h
    subst h; intro n hn; cases hn
  | x :: ws, ns, h => by
    simp only [List.mapM_cons, Option.bind_eq_bind, Option.bind_eq_some_iff, Option.pure_def, Option.some.injEq] at h
    obtain ⟨v, hv, vs, hvs, rfl⟩ := h
    intro n hn
    rcases List.mem_cons.1 hn with rfl | hn
    · exact canon_i64 hv
    · exact mapM_i64 hvs n hn
theorem parseP_line {wd : List UInt8} (hw : (32 : UInt8) ∉ wd) {ns : List Int} (h : ∀ n, n ∈ ns → I64 n) : parseP (lineL wd ns) = some (wd, ns) := by
  unfold parseP
  rw [splitW_line hw]
  simp only [canon_map h]
  rfl
theorem parseP_ok {s w : List UInt8} {ns : List Int} (h : parseP s = some (w, ns)) : s = lineL w ns ∧ (∀ n, n ∈ ns → I64 n) ∧ splitW s = w :: ns.map Lib.itoa := by
  unfold parseP at h
  split at h
  · cases h
  · rename_i w' ws e
    simp only [Option.map_eq_some_iff, Prod.mk.injEq] at h
    obtain ⟨ns', h1, rfl, rfl⟩ := h
    have e1 := mapM_canon h1
    refine ⟨?_, mapM_i64 h1, by rw [e, e1]⟩
    rw [joinW e]
    conv => lhs; rw [e1]
    unfold lineL
    rw [List.flatMap_map]
    rfl
/-- What a thing's text tells. -/
def Put.norm (p : Put) : Put := if p.k = 1 ∨ p.k = 2 then ⟨p.k, p.n, 0, p.y, p.h⟩ else if p.k = 3 then ⟨3, 0, 0, p.y, p.h⟩ else p
theorem norm_putL (p : Put) : putL p.norm = putL p := by
  obtain ⟨k, n, l, y, h⟩ := p
  unfold Put.norm
  simp only
  by_cases h12 : k = 1 ∨ k = 2
  · rw [if_pos h12]
    rcases h12 with rfl | rfl <;> rfl
  · rw [if_neg h12]
    by_cases h3 : k = 3
    · subst h3; rfl
    · rw [if_neg h3]
theorem norm_ok {p : Put} (h : p.ok) : p.norm.ok := by
  have z : I64 0 := by unfold I64; omega
  have z3 : I64 3 := by unfold I64; omega
  unfold Put.norm
  split
  · exact ⟨h.1, h.2.1, z, h.2.2.2.1, h.2.2.2.2⟩
  · split
    · exact ⟨z3, z, z, h.2.2.2.1, h.2.2.2.2⟩
    · exact h
theorem putP_putL {p : Put} (h : p.ok) : putP (putL p) = some p.norm := by
  obtain ⟨k, n, l, y, hh⟩ := p
  obtain ⟨q1, q2, q3, q4, q5⟩ := h
  simp only at q1 q2 q3 q4 q5
  unfold putL putP Put.norm
  simp only
  by_cases h1 : k = 1
  · subst h1
    rw [if_pos rfl, if_pos (.inl rfl), parseP_line (by decide) (by simp [q2, q4, q5])]
    rfl
  rw [if_neg h1]
  by_cases h2 : k = 2
  · subst h2
    rw [if_pos rfl, if_pos (.inr rfl), parseP_line (by decide) (by simp [q2, q4, q5])]
    rfl
  rw [if_neg h2, if_neg (show ¬ (k = 1 ∨ k = 2) by omega)]
  by_cases h3 : k = 3
  · subst h3
    rw [if_pos rfl, if_pos rfl, parseP_line (by decide) (by simp [q4, q5])]
    rfl
  rw [if_neg h3, if_neg h3]
  by_cases h4 : k = 4
  · subst h4
    rw [if_pos rfl, parseP_line (by decide) (by simp [q2, q3, q4, q5])]
    rfl
  rw [if_neg h4, parseP_line (by decide) (by simp [q1, q2, q3, q4, q5])]
  show putOf wThing [k, n, l, y, hh] = _
  unfold putOf
  rw [if_neg (by decide), if_neg (by decide), if_neg (by decide), if_neg (by decide), if_pos rfl]
  simp only
  rw [if_pos (by omega)]
theorem putOf_ok {w : List UInt8} {ns : List Int} {p : Put} (h : putOf w ns = some p) (hn : ∀ n, n ∈ ns → I64 n) : lineL w ns = putL p ∧ p.norm = p ∧ p.ok := by
  have z : I64 0 := by unfold I64; omega
  have z1 : I64 1 := by unfold I64; omega
  have z2 : I64 2 := by unfold I64; omega
  have z3 : I64 3 := by unfold I64; omega
  have z4 : I64 4 := by unfold I64; omega
  unfold putOf at h
  split at h
  · split at h
    · cases h
      rename_i e _ n y hh
      subst e
      exact ⟨rfl, rfl, z1, hn n (by simp), z, hn y (by simp), hn hh (by simp)⟩
    · cases h
  split at h
  · split at h
    · cases h
      rename_i e _ n y hh
      subst e
      exact ⟨rfl, rfl, z2, hn n (by simp), z, hn y (by simp), hn hh (by simp)⟩
    · cases h
  split at h
  · split at h
    · cases h
      rename_i e _ y hh
      subst e
      exact ⟨rfl, rfl, z3, z, z, hn y (by simp), hn hh (by simp)⟩
    · cases h
  split at h
  · split at h
    · cases h
      rename_i e _ n l y hh
      subst e
      exact ⟨rfl, rfl, z4, hn n (by simp), hn l (by simp), hn y (by simp), hn hh (by simp)⟩
    · cases h
  split at h
  · split at h
    · split at h
      · cases h
        rename_i e _ k n l y hh hk
        subst e
        refine ⟨?_, ?_, hn k (by simp), hn n (by simp), hn l (by simp), hn y (by simp), hn hh (by simp)⟩
        · unfold putL
          simp only
          rw [if_neg (by omega), if_neg (by omega), if_neg (by omega), if_neg (by omega)]
        · unfold Put.norm
          simp only
          rw [if_neg (by omega), if_neg (by omega)]
      · cases h
    · cases h
  · cases h
theorem putP_ok {s : List UInt8} {p : Put} (h : putP s = some p) : s = putL p ∧ p.norm = p ∧ p.ok := by
  unfold putP at h
  split at h
  · cases h
  · rename_i w ns e
    obtain ⟨e1, e2, _⟩ := parseP_ok e
    obtain ⟨q1, q2, q3⟩ := putOf_ok h e2
    exact ⟨e1.trans q1, q2, q3⟩
end Go.Proofs.YteadhacoglcbfaaDoor
namespace Go.Proofs.YteadhacoglcbfaaDoor

open Go.ChangeShapes Go.WideShapes Go.ChangeAt Go.RowKit Go.Shelf

/-- What a line that can't be read goes out by. -/
abbrev gone : List PanicEntry := [{ v := .iface 83 (.agg #[]), recovered := false }]
set_option maxHeartbeats 1000000 in
theorem many_yes (wd : List UInt8) (a : Option Addr) (n c : Nat) (w : World) :
    Calls Tryd.prog 41 #[.agg #[sv wd, .slice a n c], .int .i64 (n : Int)] w fun e w' => e = .returned (.slice a n c) ∧ Kp w w' := by
  go_enter Tryd.func41, Tryd.ntmps41
  go_wp2_with fail
  (try go_ret)
  exact ⟨rfl, (by (repeat (first | with_reducible assumption | with_reducible exact Kp.refl _ | with_reducible refine Kp.drew ?_ | with_reducible refine Kp.drewN ?_ _ | with_reducible refine Kp.alloc ?_ _ | ((with_reducible refine Kp.setCell ?_ ?_ _); rotate_left; (focus (first | omega | (simp; done) | (simp; omega)))) | with_reducible refine Kp.trans ?_ (by assumption))))⟩
set_option maxHeartbeats 1000000 in
theorem many_no (wd : List UInt8) (a : Option Addr) (n c m : Nat) (w : World) (h : n ≠ m) :
    Calls Tryd.prog 41 #[.agg #[sv wd, .slice a n c], .int .i64 (m : Int)] w fun e w' => e = .panicked gone ∧ Kp w w' := by
  have j1 : ((n : Int) != (m : Int)) = true := by simp; omega
  have j2 : (n != m) = true := by simp; omega
  have j3 : ((n : Int) == (m : Int)) = false := by simp; omega
  have j4 : (n == m) = false := by simp; omega
  go_enter Tryd.func41, Tryd.ntmps41
  go_wp2_with fail
  exact ⟨rfl, rfl, (by (repeat (first | with_reducible assumption | with_reducible exact Kp.refl _ | with_reducible refine Kp.drew ?_ | with_reducible refine Kp.drewN ?_ _ | with_reducible refine Kp.alloc ?_ _ | ((with_reducible refine Kp.setCell ?_ ?_ _); rotate_left; (focus (first | omega | (simp; done) | (simp; omega)))) | with_reducible refine Kp.trans ?_ (by assumption))))⟩
theorem mapM_snoc {ws : List (List UInt8)} {k : Nat} {x : List UInt8} {ns : List Int} {v : Int} (hx : ws[k]? = some x) (h : (ws.take k).mapM canon = some ns) (hv : canon x = some v) : (ws.take (k + 1)).mapM canon = some (ns ++ [v]) := by
  rw [List.take_add_one, hx, Option.toList_some, List.mapM_append, h]
  simp [hv]
theorem mapM_none {ws : List (List UInt8)} {k : Nat} {x : List UInt8} (hx : ws[k]? = some x) (hv : canon x = none) : ws.mapM canon = none := by
  have e : ws = ws.take k ++ x :: ws.drop (k + 1) := by
    have h := List.getElem?_eq_some_iff.1 hx
    rw [← h.2, List.getElem_cons_drop, List.take_append_drop]
  rw [e, List.mapM_append]
  cases (ws.take k).mapM canon <;> simp [hv]
theorem parseInt_yes (x : List UInt8) (v : Int) (hx : x.length ≤ 100000) (h : Lib.parseIntB 64 x = .ok v) (w : World) :
    Calls Tryd.prog 43 #[sv x, .int .i64 10, .int .i64 64] w fun e w' => e = .returned (.tuple #[.int .i64 v, .nilIface]) ∧ Kp w w' := by
  refine (Tryd.strconv_ParseInt_10_at64_ok ⟨x.toArray⟩ (by rw [size_sv]; omega) v h w).mono ?_
  rintro e w' ⟨rfl, rfl | ⟨t, rfl⟩⟩
  · exact ⟨rfl, Kp.refl _⟩
  · exact ⟨rfl, Lib.bytesWorld_below _ _ _⟩
theorem parseInt_no (x : List UInt8) (hx : x.length ≤ 100000) (h : ∀ v, Lib.parseIntB 64 x ≠ .ok v) (w : World) (he : Env w) :
    Calls Tryd.prog 43 #[sv x, .int .i64 10, .int .i64 64] w fun e w' => ∃ n N, e = .returned (.tuple #[.int .i64 n, .iface 109 (.pointer (some ⟨N, 0, none⟩))]) ∧ Kp w w' := by
  have hs : (⟨x.toArray⟩ : ByteArray).size ≤ 281474976710656 := by rw [size_sv]; omega
  rcases hp : Lib.parseIntB 64 x with v | _ | _
  · exact absurd hp (h v)
  · obtain ⟨te, pe, t, f, hh⟩ := he.errS
    refine (Any.strconv_ParseInt_10_at64_syntax Tryd.laysC174 ⟨x.toArray⟩ hs hp (.iface te pe) w (show w.cell? ⟨2, 0, none⟩ = _ by simp [World.cell?, hh]) (.inr ⟨te, pe, rfl⟩)).mono ?_
    rintro e w' ⟨N, rfl, _, _, k⟩
    exact ⟨_, N, rfl, k⟩
  · obtain ⟨te, pe, t, f, hh⟩ := he.errR
    refine (Tryd.strconv_ParseInt_10_at64_range ⟨x.toArray⟩ hs hp (.iface te pe) w (by simp [World.cell?, hh]) (.inr ⟨te, pe, rfl⟩)).mono ?_
    rintro e w' ⟨N, rfl, _, _, k⟩
    exact ⟨_, N, rfl, k⟩
theorem split_any (s : List UInt8) (hs : s.length ≤ 100000) (w : World) (he : Env w) :
    Calls Tryd.prog 42 #[sv s, .string ⟨#[32]⟩] w fun e w' => e = .returned (.slice (some ⟨w.heap.size, 0, none⟩) (splitW s).length (splitW s).length) ∧ w' = w.alloc (.cells ((splitW s).map sv).toArray 9) := by
  obtain ⟨m, t, f, hh⟩ := he.maxl
  obtain ⟨e1, e2⟩ := split_run s
  refine (Tryd.strings_Split ⟨s.toArray⟩ ⟨#[32]⟩ m w (by rw [size_sv]; omega) (by simp [World.cell?, hh]) (by decide)).mono ?_
  rintro e w' ⟨rfl, rfl⟩
  rw [e1, e2]
  exact ⟨rfl, rfl⟩
end Go.Proofs.YteadhacoglcbfaaDoor
namespace Go.Proofs.YteadhacoglcbfaaDoor

open Go.ChangeShapes Go.WideShapes Go.ChangeAt Go.RowKit Go.Shelf

def encS (x : List UInt8) : List Value := [sv x]
theorem sl_strs {w : World} {b : Nat} {l : List (List UInt8)} {t : TypeId} (h : Blk w b (l.map sv) t) (hl : l.length ≤ 1000000) : SlOk w 1 encS (some ⟨b, 0, none⟩) l.length l.length l := by
  refine ⟨rfl, Nat.le_refl _, by unfold maxLen; omega, .inr ⟨b, 0, rfl, h.lt, fun i x hx j v hv => ?_⟩⟩
  obtain _ | j := j
  · simp only [encS, List.getElem?_cons_zero, Option.some.injEq] at hv
    subst hv
    rw [Nat.zero_add, Nat.mul_one, Nat.add_zero]
    exact h.cell i (by rw [List.getElem?_map, hx]; rfl)
  · simp [encS] at hv
theorem infoI64 : (Tryd.prog.info? 2).map (fun i => (i.zero, i.size, i.bytes)) = some (some (.int .i64 0), 1, 8) := by kernel_rfl
theorem Row.setOther {α : Type} {w : World} {base n : Nat} {e : TypeId} {enc : α → List Value} {v : Value} {l : List α} (h : Row w base e n enc v l) {b o : Nat} (hb : b < base) (u : Value) : Row (w.setCell ⟨b, o, none⟩ u) base e n enc v l := by
  refine ⟨h.1, ?_⟩
  rcases h.2 with hh | ⟨g, cap, cur, rfl, hg, hgg, rest⟩
  · exact .inl hh
  · exact .inr ⟨g, cap, cur, rfl, hg, by rw [← hgg]; exact Below.heap_setCell _ _ _ _ (by show g ≠ b; omega), rest⟩
theorem splitW_len : ∀ s : List UInt8, (splitW s).length ≤ s.length + 1
  | [] => by simp [splitW]
  | c :: r => by
    have ih := splitW_len r
    unfold splitW
    split
    · rw [List.length_cons, List.length_cons]; omega
    · split
      · rename_i w ws e
        rw [e] at ih
        rw [List.length_cons] at ih ⊢
        rw [List.length_cons]; omega
      · simp
theorem splitW_short : ∀ {s : List UInt8} {x : List UInt8}, x ∈ splitW s → x.length ≤ s.length
  | [], x, h => by simp [splitW] at h; simp [h]
  | c :: r, x, h => by
    unfold splitW at h
    split at h
    · rcases List.mem_cons.1 h with rfl | h
      · simp
      · have := splitW_short h; rw [List.length_cons]; omega
    · split at h
      · rename_i w ws e
        rcases List.mem_cons.1 h with rfl | h
        · have := splitW_short (s := r) (x := w) (by rw [e]; exact List.mem_cons_self)
          rw [List.length_cons, List.length_cons]; omega
        · have := splitW_short (s := r) (x := x) (by rw [e]; exact List.mem_cons_of_mem _ h)
          rw [List.length_cons]; omega
      · simp at h; simp [h]
theorem parse_i64 {x : List UInt8} {v : Int} (hp : Lib.parseIntB 64 x = .ok v) : I64 v := by
  unfold Lib.parseIntB at hp
  unfold I64
  split at hp
  · cases hp
  · simp only at hp
    split at hp
    · cases hp
    · cases hp
    · split at hp
      · cases hp
      · split at hp
        · cases hp
        · cases hp
          split <;> omega
set_option maxRecDepth 100000 in
set_option maxHeartbeats 8000000 in
theorem parse_any (s : List UInt8) (hs : s.length ≤ 10000) (w : World) (he : Env w) :
    Calls Tryd.prog 25 #[sv s] w fun e w' => Kp w w' ∧ ((∃ wd ns a c, parseP s = some (wd, ns) ∧ e = .returned (.agg #[sv wd, .slice a ns.length c]) ∧ SlOk w' 1 enc1 a ns.length c ns ∧ ns.length ≤ 10000 ∧ ∀ b off sp, a = some ⟨b, off, sp⟩ → w.heap.size ≤ b) ∨ (parseP s = none ∧ e = .panicked gone)) := by
  have HE := Lib.hid he
  obtain ⟨w0, ws, hsp⟩ := List.exists_cons_of_ne_nil (splitW_ne s)
  have hlen := splitW_len s
  have HSH := Lib.hid (fun x hx => splitW_short (s := s) (x := x) hx)
  have CS := Lib.hid (fun w' (k : Kp w w') => split_any s (by omega) w' (he.kp k))
  have hpp : parseP s = (ws.mapM canon).map fun ns => (w0, ns) := by unfold parseP; rw [hsp]
  rw [hsp] at hlen HSH CS
  rw [List.length_cons] at hlen
  have HPP := Lib.hid hpp
  clear he hsp hpp
  go_enter Tryd.func25, Tryd.ntmps25
  go_wp2_with fail
  refine (CS.out _ (by (repeat (first | with_reducible assumption | with_reducible exact Kp.refl _ | with_reducible refine Kp.drew ?_ | with_reducible refine Kp.drewN ?_ _ | with_reducible refine Kp.alloc ?_ _ | ((with_reducible refine Kp.setCell ?_ ?_ _); rotate_left; (focus (first | omega | (simp; done) | (simp; omega)))) | with_reducible refine Kp.trans ?_ (by assumption))))).mono ?_
  rintro e w1 ⟨rfl, rfl⟩
  have hL1 : (ws.map sv).length = ws.length := List.length_map _
  by_cases hws : ws = []
  · subst hws
    have hp0 : parseP s = some (w0, []) := HPP.out
    clear HSH
    go_wp2_with fail
    
    
    refine named_world (F := fun w2 => Blk w2 w.heap.size [sv [], .slice none 0 0] 58 ∧ Blk w2 (w.heap.size + 1 + 1) [sv w0, .slice none 0 0] 58 ∧ Kp w w2) ⟨(by (repeat (first | with_reducible assumption | ((with_reducible refine Blk.newL ?_ ?_); (focus (first | (simp; done) | omega)); rfl) | with_reducible refine Blk.drew ?_ | with_reducible refine Blk.drewN ?_ _ | with_reducible refine Blk.alloc ?_ _ | ((with_reducible refine Blk.other ?_ ?_ _); rotate_left; (focus (first | with_reducible assumption | omega | (simp; done) | (simp; omega))))))), (by (repeat (first | with_reducible assumption | ((with_reducible refine Blk.newL ?_ ?_); (focus (first | (simp; done) | omega)); rfl) | with_reducible refine Blk.drew ?_ | with_reducible refine Blk.drewN ?_ _ | with_reducible refine Blk.alloc ?_ _ | ((with_reducible refine Blk.other ?_ ?_ _); rotate_left; (focus (first | with_reducible assumption | omega | (simp; done) | (simp; omega))))))), (by (repeat (first | with_reducible assumption | with_reducible exact Kp.refl _ | with_reducible refine Kp.drew ?_ | with_reducible refine Kp.drewN ?_ _ | with_reducible refine Kp.alloc ?_ _ | ((with_reducible refine Kp.setCell ?_ ?_ _); rotate_left; (focus (first | omega | (simp; done) | (simp; omega)))) | with_reducible refine Kp.trans ?_ (by assumption))))⟩ ?_; rintro w2 ⟨br, bo, kw2⟩; have br_0 := br.cell 0 rfl; have br_1 := br.cell 1 rfl; have br_ne := br.lt; have br_n1 := Nat.lt_add_one_of_lt br_ne; have br_n2 := Nat.lt_add_one_of_lt br_n1; have bo_0 := bo.cell 0 rfl; have bo_1 := bo.cell 1 rfl; have bo_ne := bo.lt; have bo_n1 := Nat.lt_add_one_of_lt bo_ne; have bo_n2 := Nat.lt_add_one_of_lt bo_n1
    go_loopw [18] (fun v18 wr => v18 = .int .i64 0 ∧ wr = w2) (fun _ _ => 0)
    case atStart => exact ⟨rfl, rfl⟩
    case round =>
      obtain ⟨rfl, rfl⟩ := hrel
      have f1 := br.free 0
      have f2 := br.free 1
      go_wp2_with fail
      have z := ((br.set 0 (sv w0)).set 1 (.slice none 0 0))
      have z0 := z.cell 0 rfl
      have z1 := z.cell 1 rfl
      refine bodyPost_ret (v := .agg #[sv w0, .slice none 0 0]) (by simp [results, Tryd.results25, go_sem, z0, z1]) rfl ?_
      exact ⟨(by (repeat (first | with_reducible assumption | with_reducible exact Kp.refl _ | with_reducible refine Kp.drew ?_ | with_reducible refine Kp.drewN ?_ _ | with_reducible refine Kp.alloc ?_ _ | ((with_reducible refine Kp.setCell ?_ ?_ _); rotate_left; (focus (first | omega | (simp; done) | (simp; omega)))) | with_reducible refine Kp.trans ?_ (by assumption)))), .inl ⟨w0, [], none, 0, hp0, rfl, ⟨rfl, Nat.le_refl _, by decide, .inl rfl⟩, Nat.zero_le _, fun b off sp h => by cases h⟩⟩
  · have hpos : 0 < ws.length := List.length_pos_iff.2 hws
    go_wp2_with fail
    
    
    
    refine named_world (F := fun w2 => Blk w2 w.heap.size [sv [], .slice none 0 0] 58 ∧ Blk w2 (w.heap.size + 1 + 1) [sv w0, .slice none 0 0] 58 ∧ Blk w2 (w.heap.size + 1) ((w0 :: ws).map sv) 9 ∧ Kp w w2) ⟨(by (repeat (first | with_reducible assumption | ((with_reducible refine Blk.newL ?_ ?_); (focus (first | (simp; done) | omega)); rfl) | with_reducible refine Blk.drew ?_ | with_reducible refine Blk.drewN ?_ _ | with_reducible refine Blk.alloc ?_ _ | ((with_reducible refine Blk.other ?_ ?_ _); rotate_left; (focus (first | with_reducible assumption | omega | (simp; done) | (simp; omega))))))), (by (repeat (first | with_reducible assumption | ((with_reducible refine Blk.newL ?_ ?_); (focus (first | (simp; done) | omega)); rfl) | with_reducible refine Blk.drew ?_ | with_reducible refine Blk.drewN ?_ _ | with_reducible refine Blk.alloc ?_ _ | ((with_reducible refine Blk.other ?_ ?_ _); rotate_left; (focus (first | with_reducible assumption | omega | (simp; done) | (simp; omega))))))), (by (repeat (first | with_reducible assumption | ((with_reducible refine Blk.newL ?_ ?_); (focus (first | (simp; done) | omega)); rfl) | with_reducible refine Blk.drew ?_ | with_reducible refine Blk.drewN ?_ _ | with_reducible refine Blk.alloc ?_ _ | ((with_reducible refine Blk.other ?_ ?_ _); rotate_left; (focus (first | with_reducible assumption | omega | (simp; done) | (simp; omega))))))), (by (repeat (first | with_reducible assumption | with_reducible exact Kp.refl _ | with_reducible refine Kp.drew ?_ | with_reducible refine Kp.drewN ?_ _ | with_reducible refine Kp.alloc ?_ _ | ((with_reducible refine Kp.setCell ?_ ?_ _); rotate_left; (focus (first | omega | (simp; done) | (simp; omega)))) | with_reducible refine Kp.trans ?_ (by assumption))))⟩ ?_; rintro w2 ⟨br, bo, bw, kw2⟩; have br_0 := br.cell 0 rfl; have br_1 := br.cell 1 rfl; have br_ne := br.lt; have br_n1 := Nat.lt_add_one_of_lt br_ne; have br_n2 := Nat.lt_add_one_of_lt br_n1; have bo_0 := bo.cell 0 rfl; have bo_1 := bo.cell 1 rfl; have bo_ne := bo.lt; have bo_n1 := Nat.lt_add_one_of_lt bo_ne; have bo_n2 := Nat.lt_add_one_of_lt bo_n1; have bw_ne := bw.lt; have bw_n1 := Nat.lt_add_one_of_lt bw_ne; have bw_n2 := Nat.lt_add_one_of_lt bw_n1
    have hsz2 := bo.lt
    go_loopw [18] (fun v18 wr => ∃ (k : Nat) (ns : List Int) (a : Option Addr) (c : Nat), k ≤ ws.length ∧ v18 = .int .i64 (k : Int) ∧ (ws.take k).mapM canon = some ns ∧ ns.length = k ∧ Row wr w2.heap.size 2 1 enc1 (.slice a ns.length c) ns ∧ Blk wr w.heap.size [sv [], .slice none 0 0] 58 ∧ Blk wr (w.heap.size + 1) ((w0 :: ws).map sv) 9 ∧ Blk wr (w.heap.size + 1 + 1) [sv w0, .slice a ns.length c] 58 ∧ w2.heap.size ≤ wr.heap.size ∧ Kp w wr) (fun v18 _ => ws.length - (intOf v18).toNat)
    case atStart => exact ⟨0, [], none, 0, Nat.zero_le _, rfl, rfl, rfl, Row.nil _ _ _ _ _, br, bw, bo, Nat.le_refl _, (by (repeat (first | with_reducible assumption | with_reducible exact Kp.refl _ | with_reducible refine Kp.drew ?_ | with_reducible refine Kp.drewN ?_ _ | with_reducible refine Kp.alloc ?_ _ | ((with_reducible refine Kp.setCell ?_ ?_ _); rotate_left; (focus (first | omega | (simp; done) | (simp; omega)))) | with_reducible refine Kp.trans ?_ (by assumption))))⟩
    case round =>
      obtain ⟨k, ns, a, c, hk, rfl, hns, hnl, xr, xbr, xbw, xbo, xsz, xk⟩ := hrel
      have HNL := Lib.hid hnl
      clear br bw bo hnl
      by_cases hlt : k < ws.length
      · obtain ⟨x, hx⟩ : ∃ x, ws[k]? = some x := ⟨ws[k], List.getElem?_eq_getElem hlt⟩
        have hxs := HSH.out x (List.mem_cons_of_mem _ (List.mem_of_getElem? hx))
        have d0 := xbw.cell (1 + k) (v := sv x) (by rw [Nat.add_comm, List.map_cons, List.getElem?_cons_succ, List.getElem?_map, hx]; rfl)
        have ji : decide ((k : Int) < (ws.length : Int)) = true := decide_eq_true (by omega)
        have hwl := xbw.lt
        have XR := Lib.hid xr
        have XBR := Lib.hid xbr
        have XBW := Lib.hid xbw
        have XBO := Lib.hid xbo
        clear xr xbr xbw xbo
        cases hc : canon x with
        | some v =>
          obtain ⟨hp, hit⟩ : Lib.parseIntB 64 x = .ok v ∧ Lib.itoa v = x := by
            unfold canon at hc
            split at hc
            · rename_i v' hp
              split at hc
              · rename_i hi
                cases hc; exact ⟨hp, hi⟩
              · cases hc
            · cases hc
          have hvi := canon_i64 hc
          have HSN := Lib.hid (mapM_snoc hx hns hc)
          have CPI := Lib.hid (fun w' => parseInt_yes x v (by omega) hp w')
          have CFI := Lib.hid (fun w' (k : Kp w w') => formatInt v hvi w' (HE.out.kp k))
          rw [hit] at CFI
          clear hc hns hx hp hit HSH
          go_wp2_with fail
          refine (CPI.out _).mono ?_
          rintro e w3 ⟨rfl, k3⟩
          have kw3 := xk.trans k3
          go_wp2_with fail
          refine (CFI.out _ kw3).mono ?_
          rintro e w4 ⟨rfl, k4⟩
          have kw4 := kw3.trans k4
          have k34 := k3.trans k4
          have xr4 := XR.out.kp k34
          have XBR4 := Lib.hid (XBR.out.kp k34)
          have XBW4 := Lib.hid (XBW.out.kp k34)
          have bo4 := XBO.out.kp k34
          have bo4_1 := bo4.cell 1 rfl
          have hsz4 := Nat.le_trans xsz k34.size
          have XBO4 := Lib.hid bo4
          clear k3 k4 k34 bo4 XR XBR XBW XBO kw3 CPI CFI xk xsz
          go_wp2_with (at_builtin; go_loud (refine rowAppend ?gd (.tmp 38) (.tmp 40) 56 ?ho Tryd.underlying56 infoI64 rfl (by decide) (xr4.alloc (.cells #[.int .i64 v] 2)) ?hs (y := v) rfl ?h1 (Blk.new _ _ 2) ?hx ?hl ?hb ?hz ?_; (case gd => rfl); (case ho => rfl); (case hs => rfl); (case h1 => simp [enc1, Value.oneCell']); (case hx => rfl); (case hl => have := HNL.out; unfold maxLen; omega); (case hb => have := HNL.out; omega); (case hz => exact Nat.le_trans hsz4 (by simp)); intro v' w5 hr5 kp5 oth5 sz5 hne5; generalize hL : ns ++ [v] = L at hr5; obtain ⟨a5, c5, rfl, _⟩ := hr5.sl (fun _ => rfl); have bo5 := oth5 hsz2 (XBO4.out.alloc _); have z1 := bo5.cell 1 rfl; have f1 := bo5.free 1))
          have k5 := kp5 kw2.size (kw4.alloc (.cells #[.int .i64 v] 2))
          have br5 := (oth5 (by omega) (XBR4.out.alloc (.cells #[.int .i64 v] 2))).other (a := ⟨w.heap.size + 1 + 1, 1, none⟩) (by show w.heap.size ≠ w.heap.size + 1 + 1; omega) (.slice a5 L.length c5)
          have bw5 := (oth5 (by omega) (XBW4.out.alloc (.cells #[.int .i64 v] 2))).other (a := ⟨w.heap.size + 1 + 1, 1, none⟩) (by show w.heap.size + 1 ≠ w.heap.size + 1 + 1; omega) (.slice a5 L.length c5)
          have bo6 := bo5.set 1 (.slice a5 L.length c5)
          have hr6 := hr5.setOther (o := 1) hsz2 (.slice a5 L.length c5)
          have hs6 : w2.heap.size ≤ w5.heap.size := Nat.le_trans hsz4 (Nat.le_trans (by simp) sz5)
          go_wp2_with fail
          go_roundw
          case rel => exact ⟨k + 1, L, a5, c5, by omega, by go_num, by rw [← hL]; exact HSN.out, by rw [← hL, List.length_append, HNL.out]; rfl, hr6, br5, bw5, bo6, by simpa using hs6, (by (repeat (first | with_reducible assumption | with_reducible exact Kp.refl _ | with_reducible refine Kp.drew ?_ | with_reducible refine Kp.drewN ?_ _ | with_reducible refine Kp.alloc ?_ _ | ((with_reducible refine Kp.setCell ?_ ?_ _); rotate_left; (focus (first | omega | (simp; done) | (simp; omega)))) | with_reducible refine Kp.trans ?_ (by assumption))))⟩
          case measure => simp [intOf]; omega
        | none =>
          have hnone := mapM_none hx hc
          have hpn : parseP s = none := by rw [HPP.out, hnone]; rfl
          by_cases hok : ∃ v, Lib.parseIntB 64 x = .ok v
          · obtain ⟨v, hp⟩ := hok
            have hit : Lib.itoa v ≠ x := fun e => by
              unfold canon at hc
              rw [hp] at hc
              simp [e] at hc
            have hvi : I64 v := parse_i64 hp
            have CPI := Lib.hid (fun w' => parseInt_yes x v (by omega) hp w')
            have CFI := Lib.hid (fun w' (k : Kp w w') => formatInt v hvi w' (HE.out.kp k))
            obtain ⟨y, hy⟩ : ∃ y, Lib.itoa v = y := ⟨_, rfl⟩
            rw [hy] at CFI hit
            have hne : (y == x) = false := beq_eq_false_iff_ne.2 hit
            clear hc hns hx hp HSH hnone
            go_wp2_with fail
            refine (CPI.out _).mono ?_
            rintro e w3 ⟨rfl, k3⟩
            have kw3 := xk.trans k3
            go_wp2_with fail
            refine (CFI.out _ kw3).mono ?_
            rintro e w4 ⟨rfl, k4⟩
            have kw4 := kw3.trans k4
            clear k3 k4 XR XBR XBW XBO kw3 CPI CFI
            go_wp2_with fail
            exact ⟨rfl, kw4, .inr ⟨hpn, rfl⟩⟩
          · have hno : ∀ v, Lib.parseIntB 64 x ≠ .ok v := fun v e => hok ⟨v, e⟩
            have CPI := Lib.hid (fun w' (k : Kp w w') => parseInt_no x (by omega) hno w' (HE.out.kp k))
            clear hc hns hx HSH hnone hok hno
            go_wp2_with fail
            refine (CPI.out _ xk).mono ?_
            rintro e w3 ⟨n, N, rfl, k3⟩
            have kw3 := xk.trans k3
            clear k3 XR XBR XBW XBO CPI
            go_wp2_with fail
            exact ⟨rfl, kw3, .inr ⟨hpn, rfl⟩⟩
      · obtain rfl : k = ws.length := by omega
        rw [List.take_length] at hns
        have hpk : parseP s = some (w0, ns) := by rw [HPP.out, hns]; rfl
        have ji : decide ((ws.length : Int) < (ws.length : Int)) = false := decide_eq_false (by omega)
        have f1 := xbr.free 0
        have f2 := xbr.free 1
        have z0 := xbo.cell 0 rfl
        have z1 := xbo.cell 1 rfl
        have y0 := xbr.cell 0 rfl
        have y1 := xbr.cell 1 rfl
        obtain ⟨a', c', e', hsl⟩ := ((xr.setOther (b := w.heap.size) (o := 0) (by omega) (sv w0)).setOther (b := w.heap.size) (o := 1) (by omega) (.slice a ns.length c)).sl (fun _ => rfl)
        cases e'
        have HSL := Lib.hid hsl
        have XRL : Hid (∀ b, (Value.slice a ns.length c).ownBlock = some b → w2.heap.size ≤ b) := Lib.hid fun b h => (xr.lt b h).1
        clear hsl
        go_wp2_with fail
        have z := ((xbr.set 0 (sv w0)).set 1 (.slice a ns.length c))
        have q0 := z.cell 0 rfl
        have q1 := z.cell 1 rfl
        refine bodyPost_ret (v := .agg #[sv w0, .slice a ns.length c]) (by simp [results, Tryd.results25, go_sem, q0, q1]) rfl ?_
        exact ⟨(by (repeat (first | with_reducible assumption | with_reducible exact Kp.refl _ | with_reducible refine Kp.drew ?_ | with_reducible refine Kp.drewN ?_ _ | with_reducible refine Kp.alloc ?_ _ | ((with_reducible refine Kp.setCell ?_ ?_ _); rotate_left; (focus (first | omega | (simp; done) | (simp; omega)))) | with_reducible refine Kp.trans ?_ (by assumption)))), .inl ⟨w0, ns, a, c, hpk, rfl, HSL.out, by have := HNL.out; omega, fun b off sp h => by subst h; exact Nat.le_trans kw2.size (XRL.out b rfl)⟩⟩
end Go.Proofs.YteadhacoglcbfaaDoor
