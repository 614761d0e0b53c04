/- The package's variables as they stand, texts as lists of bytes, a builder that stays. -/
import Derived.Test.YtaekeogaakogbaaGreatDoorBuild

import Derived.Test.YtaekeogaakogbaaGreatDoorDeep

import Derived.Test.YtaekeogaakogbaaGreatDoorShelf

import Derived.Lib.AppendIntMem

namespace Go.Proofs.YtaekeogaakogbaaGreatDoor

open Go.RowKit

/-- A text, as a value. -/
abbrev sv (l : List UInt8) : Value := .string ⟨l.toArray⟩
structure Env (w : World) : Prop where
  tab : Lib.TabIs Tryz.prog w "internal/strconv.uint64pow10" .u64 Lib.pow10Tab
  maxl : ∃ m t f, w.heap[0]? = some (.cells #[.int .i64 m] t f)
  errS : ∃ te pe t f, w.heap[2]? = some (.cells #[.iface te pe] t f)
  errR : ∃ te pe t f, w.heap[3]? = some (.cells #[.iface te pe] t f)
theorem gTab : Tryz.prog.globalNamed "internal/strconv.uint64pow10" = some 1 := by kernel_rfl
theorem var_at {P : Program} {w : World} {n : String} {g : Nat} {cs : Array Value} (hg : P.globalNamed n = some g) (h : w.var? P n = some cs) : ∃ t f, w.heap[g]? = some (.cells cs t f) := by
  unfold World.var? at h
  simp only [hg, Option.bind_some] at h
  split at h
  next a t f hh => cases h; exact ⟨t, f, hh⟩
  next => cases h
theorem var_kp {P : Program} {w w' : World} {n : String} {g : Nat} {cs : Array Value} (hg : P.globalNamed n = some g) (h : w.var? P n = some cs) (k : Kp w w') : w'.var? P n = some cs := by
  obtain ⟨t, f, hh⟩ := var_at hg h
  unfold World.var?
  simp only [hg, Option.bind_some]
  rw [Below.block k g (lt_of_block hh), hh]
theorem Env.kp {w w' : World} (h : Env w) (k : Kp w w') : Env w' :=
  ⟨var_kp gTab h.tab k, h.maxl.imp fun _ h => h.imp fun _ h => h.imp fun _ h => (Below.block k _ (lt_of_block h)).trans h,
    h.errS.imp fun _ h => h.imp fun _ h => h.imp fun _ h => h.imp fun _ h => (Below.block k _ (lt_of_block h)).trans h, h.errR.imp fun _ h => h.imp fun _ h => h.imp fun _ h => h.imp fun _ h => (Below.block k _ (lt_of_block h)).trans h⟩
/-- A builder from block B on, in block b, holds the text l. -/
def Bld (B b : Nat) (l : List UInt8) (w : World) : Prop := Lib.IsBuilder 61 5 B b (Lib.byteCells l) w ∧ B ≤ w.heap.size
theorem builderAt_kp {T e : TypeId} {B b : Nat} {p : Value} {bs : List Value} {w w' : World} (h : Lib.BuilderAt T e B b p bs w) (k : Kp w w') : Lib.BuilderAt T e B b p bs w' := by
  obtain ⟨hB, v, hb, hown, hne⟩ := h
  refine ⟨hB, v, by rw [Below.block k b (lt_of_block hb)]; exact hb, ?_, hne⟩
  exact hown.kept (row := none) ⟨k.os, k.tape, k.output, k.size, fun i hi _ => k.block i hi⟩ (by cases hv : v.ownBlock <;> simp)
theorem Bld.kp {B b : Nat} {l : List UInt8} {w w' : World} (h : Bld B b l w) (k : Kp w w') : Bld B b l w' :=
  ⟨h.1.imp (fun h => builderAt_kp h k) (fun h => builderAt_kp h k), Nat.le_trans h.2 k.size⟩
theorem Bld.lt {B b : Nat} {l : List UInt8} {w : World} (h : Bld B b l w) : b < w.heap.size := h.1.elim (fun h => h.lt) (fun h => h.lt)
theorem Bld.new (w : World) : Bld w.heap.size w.heap.size [] (w.alloc (.cells #[.pointer none, .slice none 0 0] 61)) :=
  ⟨Lib.fresh_isBuilder 61 5 w, by simp⟩
theorem byteCells_append (l r : List UInt8) : Lib.byteCells (l ++ r) = Lib.byteCells l ++ Lib.byteCells r := by simp [Lib.byteCells]
theorem strCells_sv (l : List UInt8) : Lib.strCells ⟨l.toArray⟩ = Lib.byteCells l := by simp [Lib.strCells, Lib.byteCells]
theorem byteCells_length (l : List UInt8) : (Lib.byteCells l).length = l.length := by simp [Lib.byteCells]
theorem size_sv (l : List UInt8) : (⟨l.toArray⟩ : ByteArray).size = l.length := by simp [ByteArray.size]
theorem Wr.kp {B b : Nat} {W w w' : World} (h : Wr B b w w') (k : Kp W w) (hW : W.heap.size ≤ B) : Kp W w' := Below.trans k (Below.mono h.1 hW)
theorem Blk.wr {B b x : Nat} {cs : List Value} {t : TypeId} {w w' : World} (h : Blk w x cs t) (ht : t ≠ 5) (hx : x ≠ b) (k : Wr B b w w') : Blk w' x cs t := ⟨k.2 x _ _ _ h.heap ht hx⟩

theorem putString (B b : Nat) (l s : List UInt8) (w : World) (h : Bld B b l w) (hlen : l.length + s.length ≤ 140737488355328) :
    Calls Tryz.prog 53 #[.pointer (some ⟨b, 0, none⟩), sv s] w fun e w' => (∃ v, e = .returned v) ∧ Bld B b (l ++ s) w' ∧ Wr B b w w' := by
  refine (writeString_any B b _ ⟨s.toArray⟩ w h.1 (by rw [byteCells_length, size_sv]; exact hlen) h.2).mono ?_
  rintro e w' ⟨rfl, h1, h2⟩
  refine ⟨⟨_, rfl⟩, ⟨.inr ?_, Nat.le_trans h.2 h2.1.size⟩, h2⟩
  rw [byteCells_append, ← strCells_sv s]
  exact h1
theorem putByte (B b : Nat) (l : List UInt8) (c : Int) (x : UInt8) (hc : c = x.toNat) (w : World) (h : Bld B b l w) (hlen : l.length + 1 ≤ 140737488355328) :
    Calls Tryz.prog 54 #[.pointer (some ⟨b, 0, none⟩), .int .u8 c] w fun e w' => (∃ v, e = .returned v) ∧ Bld B b (l ++ [x]) w' ∧ Wr B b w w' := by
  subst hc
  refine (writeByte_any B b _ _ w h.1 (by rw [byteCells_length]; exact hlen) h.2).mono ?_
  rintro e w' ⟨rfl, h1, h2⟩
  refine ⟨⟨_, rfl⟩, ⟨.inr ?_, Nat.le_trans h.2 h2.1.size⟩, h2⟩
  rw [byteCells_append]
  exact h1
theorem getString (B b : Nat) (l : List UInt8) (w : World) (h : Bld B b l w) :
    Calls Tryz.prog 21 #[.pointer (some ⟨b, 0, none⟩)] w fun e w' => e = .returned (sv l) ∧ Below B w w' :=
  Tryz.Builder_String_any B b l w h.1 h.2
theorem formatInt (n : Int) (h : I64 n) (w : World) (he : Env w) :
    Calls Tryz.prog 55 #[.int .i64 n, .int .i64 10] w fun e w' => e = .returned (sv (Lib.itoa n)) ∧ Kp w w' := by
  refine (Tryz.strconv_FormatInt_10 n h.1 h.2 w he.tab).mono ?_
  rintro e w' ⟨rfl, k, os, rfl⟩
  exact ⟨rfl, Lib.below_grow _ w (Nat.le_refl _) k os⟩
theorem itoaRun (n : Int) (h : I64 n) (w : World) (he : Env w) :
    Calls Tryz.prog 121 #[.int .i64 n] w fun e w' => e = .returned (sv (Lib.itoa n)) ∧ Kp w w' := by
  refine (Tryz.strconv_Itoa n h.1 h.2 w he.tab).mono ?_
  rintro e w' ⟨rfl, k, os, rfl⟩
  exact ⟨rfl, Lib.below_grow _ w (Nat.le_refl _) k os⟩
theorem dec_short {u : Nat} (h : u < 10 ^ 20) : (Lib.decDigits u).length ≤ 20 := by
  have dd : ∀ (u : Nat), (Lib.decDigits u).length = Lib.nDigits u := by
    intro u
    induction u using Nat.strongRecOn with
    | _ u ih =>
      rw [Lib.decDigits, Lib.nDigits]
      by_cases hu : u < 10
      · simp [hu]
      · simp [hu, ih (u / 10) (by omega)]
  have nd : ∀ (k u : Nat), u < 10 ^ (k + 1) → Lib.nDigits u ≤ k + 1 := by
    intro k
    induction k with
    | zero => intro u hu; rw [Lib.nDigits_small (by omega)]; exact Nat.le_refl _
    | succ k ih =>
      intro u hu
      by_cases h : u < 10
      · rw [Lib.nDigits_small h]; omega
      · rw [Lib.nDigits_big h]
        have := ih (u / 10) (by rw [Nat.pow_succ] at hu; omega)
        omega
  rw [dd]; exact nd 19 u h
/-- A number's text is not long. -/
theorem itoa_short {n : Int} (h : I64 n) : (Lib.itoa n).length ≤ 21 := by
  obtain ⟨h0, h1⟩ := h
  unfold Lib.itoa
  split
  · rw [List.length_cons]
    have := dec_short (u := n.natAbs) (by omega)
    omega
  · have := dec_short (u := n.toNat) (by omega)
    omega
end Go.Proofs.YtaekeogaakogbaaGreatDoor
