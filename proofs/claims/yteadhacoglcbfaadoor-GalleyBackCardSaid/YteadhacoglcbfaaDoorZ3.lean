/- Part 3 of the proof: The package's variables as they stand, texts as lists of bytes, a builder that stays. A word and numbers as a text: the program's line. Regions that draw their order: what was there is held through the region. A thing's text: the program's. -/
import Derived.Test.YteadhacoglcbfaaDoorZ2
import Derived.Lib.AppendIntMem
import Derived.Deep.RegionHeld3
import Derived.Deep.QuietTactic
import Derived.BigQuiet
import Derived.Deep.DeepCutAuto
namespace Go.Proofs.YteadhacoglcbfaaDoor

open Go.RowKit

/-- A text, as a value. -/
abbrev sv (l : List UInt8) : Value := .string ⟨l.toArray⟩
def namesA : Array Value := #[sv [], sv [98, 111, 120], sv [102, 108, 111, 97, 116], sv [114, 117, 108, 101], sv [108, 105, 110, 101]]
structure Env (w : World) : Prop where
  tab : Lib.TabIs Tryd.prog w "internal/strconv.uint64pow10" .u64 Lib.pow10Tab
  maxl : ∃ m t f, w.heap[1]? = some (.cells #[.int .i64 m] t f)
  errS : ∃ te pe t f, w.heap[2]? = some (.cells #[.iface te pe] t f)
  errR : ∃ te pe t f, w.heap[3]? = some (.cells #[.iface te pe] t f)
theorem gNames : Tryd.prog.globalNamed "tympan/show.names" = some 0 := by kernel_rfl
theorem gTab : Tryd.prog.globalNamed "internal/strconv.uint64pow10" = some 4 := by kernel_rfl
theorem var_at {P : Program} {w : World} {n : String} {g : Nat} {cs : Array Value} (hg : P.globalNamed n = some g) (h : w.var? P n = some cs) : ∃ t f, w.heap[g]? = some (.cells cs t f) := by
  unfold World.var? at h
  simp only [hg, Option.bind_some] at h
  split at h
  next a t f hh => cases h; exact ⟨t, f, hh⟩
  next => cases h
theorem var_kp {P : Program} {w w' : World} {n : String} {g : Nat} {cs : Array Value} (hg : P.globalNamed n = some g) (h : w.var? P n = some cs) (k : Kp w w') : w'.var? P n = some cs := by
  obtain ⟨t, f, hh⟩ := var_at hg h
  unfold World.var?
  simp only [hg, Option.bind_some]
  rw [Below.block k g (lt_of_block hh), hh]
theorem Env.kp {w w' : World} (h : Env w) (k : Kp w w') : Env w' :=
  ⟨var_kp gTab h.tab k, h.maxl.imp fun _ h => h.imp fun _ h => h.imp fun _ h => (Below.block k _ (lt_of_block h)).trans h,
    h.errS.imp fun _ h => h.imp fun _ h => h.imp fun _ h => h.imp fun _ h => (Below.block k _ (lt_of_block h)).trans h, h.errR.imp fun _ h => h.imp fun _ h => h.imp fun _ h => h.imp fun _ h => (Below.block k _ (lt_of_block h)).trans h⟩
/-- The same, and what kinds are called. -/
structure EnvN (w : World) : Prop where
  env : Env w
  names : w.var? Tryd.prog "tympan/show.names" = some namesA
theorem EnvN.kp {w w' : World} (h : EnvN w) (k : Kp w w') : EnvN w' := ⟨h.env.kp k, var_kp gNames h.names k⟩
theorem EnvN.name {w : World} (h : EnvN w) (k : Nat) {v : Value} (hv : namesA[k]? = some v) : w.cell? ⟨0, k, none⟩ = some v := by
  obtain ⟨t, f, hh⟩ := var_at gNames h.names
  simp [World.cell?, hh, hv]
/-- A builder from block B on, in block b, holds the text l. -/
def Bld (B b : Nat) (l : List UInt8) (w : World) : Prop := Lib.IsBuilder 71 5 B b (Lib.byteCells l) w ∧ B ≤ w.heap.size
theorem builderAt_kp {T e : TypeId} {B b : Nat} {p : Value} {bs : List Value} {w w' : World} (h : Lib.BuilderAt T e B b p bs w) (k : Kp w w') : Lib.BuilderAt T e B b p bs w' := by
  obtain ⟨hB, v, hb, hown, hne⟩ := h
  refine ⟨hB, v, by rw [Below.block k b (lt_of_block hb)]; exact hb, ?_, hne⟩
  exact hown.kept (row := none) ⟨k.os, k.tape, k.output, k.size, fun i hi _ => k.block i hi⟩ (by cases hv : v.ownBlock <;> simp)
theorem Bld.kp {B b : Nat} {l : List UInt8} {w w' : World} (h : Bld B b l w) (k : Kp w w') : Bld B b l w' :=
  ⟨h.1.imp (fun h => builderAt_kp h k) (fun h => builderAt_kp h k), Nat.le_trans h.2 k.size⟩
theorem Bld.lt {B b : Nat} {l : List UInt8} {w : World} (h : Bld B b l w) : b < w.heap.size := h.1.elim (fun h => h.lt) (fun h => h.lt)
theorem Bld.new (w : World) : Bld w.heap.size w.heap.size [] (w.alloc (.cells #[.pointer none, .slice none 0 0] 71)) :=
  ⟨Lib.fresh_isBuilder 71 5 w, by simp⟩
theorem byteCells_append (l r : List UInt8) : Lib.byteCells (l ++ r) = Lib.byteCells l ++ Lib.byteCells r := by simp [Lib.byteCells]
theorem strCells_sv (l : List UInt8) : Lib.strCells ⟨l.toArray⟩ = Lib.byteCells l := by simp [Lib.strCells, Lib.byteCells]
theorem byteCells_length (l : List UInt8) : (Lib.byteCells l).length = l.length := by simp [Lib.byteCells]
theorem size_sv (l : List UInt8) : (⟨l.toArray⟩ : ByteArray).size = l.length := by simp [ByteArray.size]
theorem Wr.kp {B b : Nat} {W w w' : World} (h : Wr B b w w') (k : Kp W w) (hW : W.heap.size ≤ B) : Kp W w' := Below.trans k (Below.mono h.1 hW)
theorem Blk.wr {B b x : Nat} {cs : List Value} {t : TypeId} {w w' : World} (h : Blk w x cs t) (ht : t ≠ 5) (hx : x ≠ b) (k : Wr B b w w') : Blk w' x cs t := ⟨k.2 x _ _ _ h.heap ht hx⟩

theorem putString (B b : Nat) (l s : List UInt8) (w : World) (h : Bld B b l w) (hlen : l.length + s.length ≤ 140737488355328) :
    Calls Tryd.prog 33 #[.pointer (some ⟨b, 0, none⟩), sv s] w fun e w' => (∃ v, e = .returned v) ∧ Bld B b (l ++ s) w' ∧ Wr B b w w' := by
  refine (writeString_any B b _ ⟨s.toArray⟩ w h.1 (by rw [byteCells_length, size_sv]; exact hlen) h.2).mono ?_
  rintro e w' ⟨rfl, h1, h2⟩
  refine ⟨⟨_, rfl⟩, ⟨.inr ?_, Nat.le_trans h.2 h2.1.size⟩, h2⟩
  rw [byteCells_append, ← strCells_sv s]
  exact h1
theorem putByte (B b : Nat) (l : List UInt8) (c : Int) (x : UInt8) (hc : c = x.toNat) (w : World) (h : Bld B b l w) (hlen : l.length + 1 ≤ 140737488355328) :
    Calls Tryd.prog 34 #[.pointer (some ⟨b, 0, none⟩), .int .u8 c] w fun e w' => (∃ v, e = .returned v) ∧ Bld B b (l ++ [x]) w' ∧ Wr B b w w' := by
  subst hc
  refine (writeByte_any B b _ _ w h.1 (by rw [byteCells_length]; exact hlen) h.2).mono ?_
  rintro e w' ⟨rfl, h1, h2⟩
  refine ⟨⟨_, rfl⟩, ⟨.inr ?_, Nat.le_trans h.2 h2.1.size⟩, h2⟩
  rw [byteCells_append]
  exact h1
theorem getString (B b : Nat) (l : List UInt8) (w : World) (h : Bld B b l w) :
    Calls Tryd.prog 35 #[.pointer (some ⟨b, 0, none⟩)] w fun e w' => e = .returned (sv l) ∧ Below B w w' :=
  Tryd.Builder_String_any B b l w h.1 h.2
theorem formatInt (n : Int) (h : I64 n) (w : World) (he : Env w) :
    Calls Tryd.prog 44 #[.int .i64 n, .int .i64 10] w fun e w' => e = .returned (sv (Lib.itoa n)) ∧ Kp w w' := by
  refine (Tryd.strconv_FormatInt_10 n h.1 h.2 w he.tab).mono ?_
  rintro e w' ⟨rfl, k, os, rfl⟩
  exact ⟨rfl, Lib.below_grow _ w (Nat.le_refl _) k os⟩
theorem itoaRun (n : Int) (h : I64 n) (w : World) (he : Env w) :
    Calls Tryd.prog 80 #[.int .i64 n] w fun e w' => e = .returned (sv (Lib.itoa n)) ∧ Kp w w' := by
  refine (Tryd.strconv_Itoa n h.1 h.2 w he.tab).mono ?_
  rintro e w' ⟨rfl, k, os, rfl⟩
  exact ⟨rfl, Lib.below_grow _ w (Nat.le_refl _) k os⟩
theorem dec_short {u : Nat} (h : u < 10 ^ 20) : (Lib.decDigits u).length ≤ 20 := by
  have dd : ∀ (u : Nat), (Lib.decDigits u).length = Lib.nDigits u := by
    intro u
    induction u using Nat.strongRecOn with
    | _ u ih =>
      rw [Lib.decDigits, Lib.nDigits]
      by_cases hu : u < 10
      · simp [hu]
      · simp [hu, ih (u / 10) (by omega)]
  have nd : ∀ (k u : Nat), u < 10 ^ (k + 1) → Lib.nDigits u ≤ k + 1 := by
    intro k
    induction k with
    | zero => intro u hu; rw [Lib.nDigits_small (by omega)]; exact Nat.le_refl _
    | succ k ih =>
      intro u hu
      by_cases h : u < 10
      · rw [Lib.nDigits_small h]; omega
      · rw [Lib.nDigits_big h]
        have := ih (u / 10) (by rw [Nat.pow_succ] at hu; omega)
        omega
  rw [dd]; exact nd 19 u h
/-- A number's text is not long. -/
theorem itoa_short {n : Int} (h : I64 n) : (Lib.itoa n).length ≤ 21 := by
  obtain ⟨h0, h1⟩ := h
  unfold Lib.itoa
  split
  · rw [List.length_cons]
    have := dec_short (u := n.natAbs) (by omega)
    omega
  · have := dec_short (u := n.toNat) (by omega)
    omega
end Go.Proofs.YteadhacoglcbfaaDoor
namespace Go.Proofs.YteadhacoglcbfaaDoor

open Go.RowKit

/-- A number's cells. -/
def enc1 (x : Int) : List Value := [.int .i64 x]
def numL (n : Int) : List UInt8 := 32 :: Lib.itoa n
def lineL (wd : List UInt8) (ns : List Int) : List UInt8 := wd ++ ns.flatMap numL
theorem flat_snoc {α β : Type} {f : α → List β} {l : List α} {k : Nat} {x : α} (h : l[k]? = some x) : (l.take (k + 1)).flatMap f = (l.take k).flatMap f ++ f x := by
  rw [List.take_add_one, h, List.flatMap_append]; simp
theorem numL_short {n : Int} (h : I64 n) : (numL n).length ≤ 22 := by unfold numL; have := itoa_short h; simp; omega
theorem flat_short {l : List Int} (h : ∀ x, x ∈ l → I64 x) : (l.flatMap numL).length ≤ 22 * l.length := by
  induction l with
  | nil => simp
  | cons x l ih =>
    have h1 := numL_short (h x List.mem_cons_self)
    have h2 := ih fun y hy => h y (List.mem_cons_of_mem _ hy)
    rw [List.flatMap_cons, List.length_append, List.length_cons]
    omega
theorem lineL_short {wd : List UInt8} {ns : List Int} (h : ∀ x, x ∈ ns → I64 x) : (lineL wd ns).length ≤ wd.length + 22 * ns.length := by
  unfold lineL
  rw [List.length_append]
  have := flat_short h
  omega

set_option maxRecDepth 100000 in
set_option maxHeartbeats 2000000 in
theorem line_any (a : Option Addr) (cap : Nat) (wd : List UInt8) (ns : List Int) (w : World) (he : Env w) (hl : SlOk w 1 enc1 a ns.length cap ns) (hi : ∀ x, x ∈ ns → I64 x) (hw : wd.length ≤ 1000) (hn : ns.length ≤ 1000) :
    Calls Tryd.prog 31 #[sv wd, .slice a ns.length cap] w fun e w' => e = .returned (sv (lineL wd ns)) ∧ Kp w w' := by
  have HE := Lib.hid he
  have HL := Lib.hid hl
  have HI := Lib.hid hi
  have hcl := hl.2.1
  have hcm := hl.2.2.1
  unfold maxLen at hcm
  clear he hl hi
  go_enter Tryd.func31, Tryd.ntmps31
  go_wp2_with fail
  refine (putString w.heap.size w.heap.size [] wd _ (Bld.new w) (by simp; omega)).mono ?_
  rintro e w1 ⟨⟨v, rfl⟩, h1, b1⟩
  rw [List.nil_append] at h1
  have k1 : Kp w w1 := Below.trans (Below.alloc (Below.refl _ w) (Nat.le_refl _) _) b1.1
  clear b1
  go_wp2_with fail
  go_loopw [12] (fun v12 wr => ∃ (k : Nat), k ≤ ns.length ∧ v12 = .int .i64 k ∧ Bld w.heap.size w.heap.size (wd ++ (ns.take k).flatMap numL) wr ∧ Kp w wr) (fun v12 _ => ns.length - (intOf v12).toNat)
  case atStart => exact ⟨0, Nat.zero_le _, rfl, by simpa using h1, k1⟩
  case round =>
    clear h1 k1
    obtain ⟨k, hk, rfl, xb, xk⟩ := hrel
    have hfl : ((ns.take k).flatMap numL).length ≤ 22 * 1000 := Nat.le_trans (flat_short fun x hx => HI.out x (List.mem_of_mem_take hx)) (by rw [List.length_take]; omega)
    obtain ⟨t, ht⟩ : ∃ t, (ns.take k).flatMap numL = t := ⟨_, rfl⟩
    rw [ht] at xb hfl
    by_cases hlt : k < ns.length
    · obtain ⟨x, hx⟩ : ∃ x, ns[k]? = some x := ⟨ns[k]'hlt, List.getElem?_eq_getElem _⟩
      have hxi := HI.out x (List.mem_of_getElem? hx)
      have hxs := itoa_short hxi
      have hs := flat_snoc (f := numL) hx
      rw [ht] at hs
      have HS := Lib.hid hs
      have tl := HL.out.kp xk
      rcases tl.2.2.2 with e | ⟨ga, oa, rfl, hga, r1⟩
      · rw [e] at hlt; simp at hlt
      have d0 := r1 k _ hx 0 _ rfl
      simp only [Nat.add_zero, Nat.mul_one] at d0
      have j1 : decide ((k : Int) < (ns.length : Int)) = true := decide_eq_true (by omega)
      have XB := Lib.hid xb
      have XI := Lib.hid hxi
      clear tl r1 hx hs ht xb hxi HL
      go_wp2_with fail
      refine (putByte w.heap.size w.heap.size _ 32 32 rfl _ XB.out (by simp; omega)).mono ?_
      rintro e w2 ⟨⟨v, rfl⟩, h2, b2⟩
      have k2 : Kp w w2 := Below.trans xk b2.1
      clear b2
      go_wp2_with fail
      refine (formatInt x XI.out _ (HE.out.kp k2)).mono ?_
      rintro e w3 ⟨rfl, k3⟩
      have h3 := h2.kp k3
      have k3' := k2.trans k3
      clear h2 k2 k3
      go_wp2_with fail
      refine (putString w.heap.size w.heap.size _ _ _ h3 (by simp; omega)).mono ?_
      rintro e w4 ⟨⟨v, rfl⟩, h4, b4⟩
      have k4 : Kp w w4 := Below.trans k3' b4.1
      clear b4 h3 k3'
      go_wp2_with fail
      go_roundw
      case rel => exact ⟨k + 1, by omega, by go_num, by rw [HS.out]; simpa [numL] using h4, k4⟩
      case measure => simp [intOf]; omega
    · obtain rfl : k = ns.length := by omega
      have j1 : decide ((ns.length : Int) < (ns.length : Int)) = false := decide_eq_false (by omega)
      rw [List.take_length] at ht
      go_wp2_with fail
      refine (getString _ _ _ _ xb).mono ?_
      rintro e w2 ⟨rfl, b2⟩
      have k2 : Kp w w2 := Below.trans xk b2
      clear b2
      go_wp2_with fail
      go_ret
      exact ⟨by unfold lineL; rw [ht]; rfl, k2⟩
end Go.Proofs.YteadhacoglcbfaaDoor
namespace Go.Proofs.YteadhacoglcbfaaDoor

open Go.RowKit

theorem named_world {P : Program} {c : Code} {Q : Exit → Act → World → Prop} {a : Act} {W : World} {F : World → Prop} (hF : F W) (h : ∀ w, F w → Code.wp P c Q a w) : Code.wp P c Q a W := h W hF
theorem held_start (W : World) : (∀ b o, b < W.heap.size → W.drew.cell? ⟨b, o, none⟩ = W.cell? ⟨b, o, none⟩) ∧ Kp W W.drew := ⟨fun _ _ _ => rfl, (Kp.refl W).drew⟩
theorem held_kp {W a : World} (k : Kp W a) : (∀ b o, b < W.heap.size → a.cell? ⟨b, o, none⟩ = W.cell? ⟨b, o, none⟩) ∧ Kp W a :=
  ⟨fun b o hb => k.cell (p := ⟨b, o, none⟩) hb, k⟩
theorem held_next {W a c : World} (h : (∀ b o, b < W.heap.size → a.cell? ⟨b, o, none⟩ = W.cell? ⟨b, o, none⟩) ∧ Kp W a) (k : Kp a c) : (∀ b o, b < W.heap.size → c.cell? ⟨b, o, none⟩ = W.cell? ⟨b, o, none⟩) ∧ Kp W c :=
  ⟨fun b o hb => (k.cell (p := ⟨b, o, none⟩) (Nat.lt_of_lt_of_le hb h.2.size)).trans (h.1 b o hb), h.2.trans k⟩
theorem held_alloc {W a : World} (h : (∀ b o, b < W.heap.size → a.cell? ⟨b, o, none⟩ = W.cell? ⟨b, o, none⟩) ∧ Kp W a) (x : Obj) : (∀ b o, b < W.heap.size → (a.alloc x).cell? ⟨b, o, none⟩ = W.cell? ⟨b, o, none⟩) ∧ Kp W (a.alloc x) :=
  held_next h ((Kp.refl a).alloc x)
theorem held_drew {W a : World} (h : (∀ b o, b < W.heap.size → a.cell? ⟨b, o, none⟩ = W.cell? ⟨b, o, none⟩) ∧ Kp W a) : (∀ b o, b < W.heap.size → a.drew.cell? ⟨b, o, none⟩ = W.cell? ⟨b, o, none⟩) ∧ Kp W a.drew :=
  held_next h (Kp.refl a).drew
theorem held_store {W a : World} (h : (∀ b o, b < W.heap.size → a.cell? ⟨b, o, none⟩ = W.cell? ⟨b, o, none⟩) ∧ Kp W a) {p : Addr} (hp : W.heap.size ≤ p.block) (v : Value) : (∀ b o, b < W.heap.size → (a.setCell p v).cell? ⟨b, o, none⟩ = W.cell? ⟨b, o, none⟩) ∧ Kp W (a.setCell p v) :=
  ⟨fun b o hb => (Kp.cell (h.2.setCell hp v) (p := ⟨b, o, none⟩) hb), h.2.setCell hp v⟩
/-- A step that is taken first: the kit's law, its three closed conditions in one. -/
theorem takeH {P : Program} {md : Region.Mode} {ops : Array Oper} {Q : Exit → Act → World → Prop} {S : World → Prop} {i : Nat} {oi : Oper} {v : Value} {fuel : Nat} {listed : Array Bool} {a : Act} {w : World} (hi : ops[i]? = some oi)
    (hs : (Region.noSelect ops && (Region.free md ops listed i && (Region.ready md ops listed).contains i)) = true)
    (hQ : ∀ c a w, Q (.panic c) (a.put oi.dst v) w → Q (.panic c) a w) (hy : YieldsIf P ops S oi v a) (hS : S w)
    (h : wpAnyH P md ops Q S fuel (listed.setIfInBounds i true) (a.put oi.dst v) w) : wpAnyH P md ops Q S (fuel + 1) listed a w := by
  rw [Bool.and_eq_true, Bool.and_eq_true] at hs
  exact wpAnyH_take hi hs.1 hs.2.1 hs.2.2 hQ hy hS h
/-! Short names, for the long step-by-step walks. -/
theorem g1 {α : Type} {i : Nat} {xs : List α} : xs.toArray[i]? = xs[i]? := by simp
theorem g2 {α : Type} {a : α} {l : List α} {i : Nat} : (a :: l)[i + 1]? = l[i]? := List.getElem?_cons_succ
theorem g3 {α : Type} {a : α} {l : List α} : (a :: l)[0]? = some a := List.getElem?_cons_zero
theorem s1 {α : Type} (l : List α) (i : Nat) (a : α) : l.toArray.setIfInBounds i a = (l.set i a).toArray := by simp
theorem s2 {α : Type} {x : α} {xs : List α} {a : α} : (x :: xs).set 0 a = a :: xs := List.set_cons_zero
theorem s3 {α : Type} {x : α} {xs : List α} {n : Nat} {a : α} : (x :: xs).set (n + 1) a = x :: xs.set n a := List.set_cons_succ
end Go.Proofs.YteadhacoglcbfaaDoor
namespace Go.Proofs.YteadhacoglcbfaaDoor

open Go.RowKit

def putL (p : Put) : List UInt8 :=
  if p.k = 1 then lineL [98, 111, 120] [p.n, p.y, p.h] else if p.k = 2 then lineL [102, 108, 111, 97, 116] [p.n, p.y, p.h]
  else if p.k = 3 then lineL [114, 117, 108, 101] [p.y, p.h] else if p.k = 4 then lineL [108, 105, 110, 101] [p.n, p.l, p.y, p.h]
  else lineL [116, 104, 105, 110, 103] [p.k, p.n, p.l, p.y, p.h]
theorem sl_blk {w : World} {b : Nat} {l : List Int} {t : TypeId} (h : Blk w b (l.map fun x => .int .i64 x) t) (hl : l.length ≤ 1000) : SlOk w 1 enc1 (some ⟨b, 0, none⟩) l.length l.length l := by
  refine ⟨rfl, Nat.le_refl _, by unfold maxLen; omega, .inr ⟨b, 0, rfl, h.lt, fun i x hx j v hv => ?_⟩⟩
  match j, hv with
  | 0, hv =>
    simp only [enc1, List.getElem?_cons_zero, Option.some.injEq] at hv
    subst hv
    have := h.cell i (v := .int .i64 x) (by rw [List.getElem?_map, hx]; rfl)
    simpa using this
def knownB (k : Int) : Bool := decide (1 ≤ k) && decide (k ≤ 4)
theorem known_any (k : Int) (w : World) : Calls Tryd.prog 30 #[.int .i64 k] w fun e w' => e = .returned (.bool (knownB k)) ∧ w' = w := by
  unfold knownB
  go_enter Tryd.func30, Tryd.ntmps30
  by_cases h1 : 1 ≤ k
  · by_cases h2 : k ≤ 4
    · have j1 := decide_eq_true h1
      have j2 := decide_eq_true h2
      go_wp2
      (try go_ret)
      exact ⟨by first | rfl | (rw [j1, j2]; rfl), rfl⟩
    · have j1 := decide_eq_true h1
      have j2 := decide_eq_false h2
      go_wp2
      (try go_ret)
      exact ⟨by first | rfl | (rw [j1, j2]; rfl), rfl⟩
  · have j1 := decide_eq_false h1
    go_wp2
    (try go_ret)
    exact ⟨by first | rfl | (rw [j1]; rfl), rfl⟩
set_option maxRecDepth 100000 in
set_option maxHeartbeats 2000000 in
theorem put_box (p : Put) (hp : p.ok) (w : World) (he : EnvN w) (hk : p.k = 1) :
    Calls Tryd.prog 12 #[.agg #[.int .i64 p.k, .int .i64 p.n, .int .i64 p.l, .int .i64 p.y, .int .i64 p.h]] w fun e w' => e = .returned (sv (lineL [98, 111, 120] [p.n, p.y, p.h])) ∧ Kp w w' := by
  obtain ⟨k, n, l, y, h⟩ := p
  simp only at hk ⊢
  subst hk
  have HE := Lib.hid he
  have HP := Lib.hid hp
  have HI : Hid (∀ x, x ∈ [n, y, h] → I64 x) := Lib.hid (by
    obtain ⟨p0, p1, p2, p3, p4⟩ := HP.out
    simp only at p0 p1 p2 p3 p4
    intro x hx
    simp only [List.mem_cons, List.not_mem_nil, or_false] at hx
    rcases hx with rfl | rfl | rfl <;> assumption)
  clear he hp
  go_enter Tryd.func12, Tryd.ntmps12
  go_wp2_with fail
  
  refine named_world (F := fun w1 => Blk w1 w.heap.size [.int .i64 1, .int .i64 n, .int .i64 l, .int .i64 y, .int .i64 h] 33 ∧ Kp w w1) ⟨(by (repeat (first | with_reducible assumption | ((with_reducible refine Blk.newL ?_ ?_); (focus (first | (simp; done) | omega)); rfl) | with_reducible refine Blk.drew ?_ | with_reducible refine Blk.drewN ?_ _ | with_reducible refine Blk.alloc ?_ _ | ((with_reducible refine Blk.other ?_ ?_ _); rotate_left; (focus (first | with_reducible assumption | omega | (simp; done) | (simp; omega))))))), (by (repeat (first | with_reducible assumption | with_reducible exact Kp.refl _ | with_reducible refine Kp.drew ?_ | with_reducible refine Kp.drewN ?_ _ | with_reducible refine Kp.alloc ?_ _ | ((with_reducible refine Kp.setCell ?_ ?_ _); rotate_left; (focus (first | omega | (simp; done) | (simp; omega)))) | with_reducible refine Kp.trans ?_ (by assumption))))⟩ ?_; rintro w1 ⟨bp, kw1⟩; have bp_0 := bp.cell 0 rfl; have bp_1 := bp.cell 1 rfl; have bp_2 := bp.cell 2 rfl; have bp_3 := bp.cell 3 rfl; have bp_4 := bp.cell 4 rfl; have bp_ne := bp.lt; have bp_n1 := Nat.lt_add_one_of_lt bp_ne; have bp_n2 := Nat.lt_add_one_of_lt bp_n1
  (refine wp_region_held_drew (S := (fun w' => (∀ b o, b < w1.heap.size → w'.cell? ⟨b, o, none⟩ = w1.cell? ⟨b, o, none⟩) ∧ Kp w1 w')) (by kernel_rfl) ?_ (fun hHd => ?_); (focus ((try dsimp only); (first | with_reducible assumption | with_reducible exact held_start _ | with_reducible exact held_next (by assumption) (by assumption) | with_reducible exact held_alloc (by assumption) _ | with_reducible exact held_drew (by assumption) | ((with_reducible refine held_kp ?_); (repeat (first | with_reducible assumption | with_reducible exact Kp.refl _ | with_reducible refine Kp.drew ?_ | with_reducible refine Kp.drewN ?_ _ | with_reducible refine Kp.alloc ?_ _ | ((with_reducible refine Kp.setCell ?_ ?_ _); rotate_left; (focus (first | omega | (simp; done) | (simp; omega)))) | with_reducible refine Kp.trans ?_ (by assumption))))))))
  (refine takeH (i := 0) (oi := ?o1) (v := ?v1) ?h1 (by kernel_rfl) ?q1 (Or.inl ⟨?w1, ?y1⟩) (by assumption) ?r1; (case h1 => ((simp only [g1, g3]); rfl)); (case q1 => exact fun _ _ _ h => h); (case w1 => rfl); (case y1 => (intro w' hSw; (try dsimp only at hSw); go_simp; (try with_reducible rfl))); (try simp only [Act.put, s1, s2, s3]))
  (refine takeH (i := 1) (oi := ?o2) (v := ?v2) ?h2 (by kernel_rfl) ?q2 (Or.inl ⟨?w2, ?y2⟩) (by assumption) ?r2; (case h2 => ((simp only [g1, g2, g3]); rfl)); (case q2 => exact fun _ _ _ h => h); (case w2 => rfl); (case y2 => (intro w' hSw; (try dsimp only at hSw); go_simp; (try with_reducible rfl))); (try simp only [Act.put, s1, s2, s3]))
  (refine takeH (i := 2) (oi := ?o3) (v := ?v3) ?h3 (by kernel_rfl) ?q3 (Or.inl ⟨?w3, ?y3⟩) (by assumption) ?r3; (case h3 => ((simp only [g1, g2, g3]); rfl)); (case q3 => exact fun _ _ _ h => h); (case w3 => rfl); (case y3 => (intro w' hSw; (try dsimp only at hSw); go_simp; (try with_reducible rfl))); (try simp only [Act.put, s1, s2, s3]))
  (refine takeH (i := 3) (oi := ?o4) (v := ?v4) ?h4 (by kernel_rfl) ?q4 (Or.inl ⟨?w4, ?y4⟩) (by assumption) ?r4; (case h4 => ((simp only [g1, g2, g3]); rfl)); (case q4 => exact fun _ _ _ h => h); (case w4 => rfl); (case y4 => (intro w' hSw; (try dsimp only at hSw); go_simp; (try with_reducible rfl))); (try simp only [Act.put, s1, s2, s3]))
  (refine takeH (i := 4) (oi := ?o5) (v := ?v5) ?h5 (by kernel_rfl) ?q5 (Or.inl ⟨?w5, ?y5⟩) (by assumption) ?r5; (case h5 => ((simp only [g1, g2, g3]); rfl)); (case q5 => exact fun _ _ _ h => h); (case w5 => rfl); (case y5 => (intro w' hSw; (try dsimp only at hSw); go_simp; (try with_reducible rfl))); (try simp only [Act.put, s1, s2, s3]))
  (refine takeH (i := 5) (oi := ?o6) (v := ?v6) ?h6 (by kernel_rfl) ?q6 (Or.inl ⟨?w6, ?y6⟩) (by assumption) ?r6; (case h6 => ((simp only [g1, g2, g3]); rfl)); (case q6 => exact fun _ _ _ h => h); (case w6 => rfl); (case y6 => (intro w' hSw; (try dsimp only at hSw); go_simp; (try with_reducible rfl))); (try simp only [Act.put, s1, s2, s3]))
  refine wpAnyH_done (by kernel_rfl) ?_ _
  go_wp2_with fail
  refine (known_any _ _).mono ?_
  rintro e w2 ⟨rfl, rfl⟩
  have j1 : knownB 1 = true := rfl
  go_wp2_with fail
  refine named_world (F := fun w2 => Blk w2 w.heap.size [.int .i64 1, .int .i64 n, .int .i64 l, .int .i64 y, .int .i64 h] 33 ∧ Kp w w2) ⟨(by (repeat (first | with_reducible assumption | ((with_reducible refine Blk.newL ?_ ?_); (focus (first | (simp; done) | omega)); rfl) | with_reducible refine Blk.drew ?_ | with_reducible refine Blk.drewN ?_ _ | with_reducible refine Blk.alloc ?_ _ | ((with_reducible refine Blk.other ?_ ?_ _); rotate_left; (focus (first | with_reducible assumption | omega | (simp; done) | (simp; omega))))))), (by (repeat (first | with_reducible assumption | with_reducible exact Kp.refl _ | with_reducible refine Kp.drew ?_ | with_reducible refine Kp.drewN ?_ _ | with_reducible refine Kp.alloc ?_ _ | ((with_reducible refine Kp.setCell ?_ ?_ _); rotate_left; (focus (first | omega | (simp; done) | (simp; omega)))) | with_reducible refine Kp.trans ?_ (by assumption))))⟩ ?_; clear bp bp_0 bp_1 bp_2 bp_3 bp_4 bp_ne bp_n1 bp_n2; rintro w2 ⟨bp, kw2⟩; have bp_0 := bp.cell 0 rfl; have bp_1 := bp.cell 1 rfl; have bp_2 := bp.cell 2 rfl; have bp_3 := bp.cell 3 rfl; have bp_4 := bp.cell 4 rfl; have bp_ne := bp.lt; have bp_n1 := Nat.lt_add_one_of_lt bp_ne; have bp_n2 := Nat.lt_add_one_of_lt bp_n1
  have d1 := (HE.out.kp kw2).name 1 rfl
  have d0 := World.block_lt_of_cell? _ _ d1
  (refine wp_region_held_drew (S := (fun w' => (∀ b o, b < w2.heap.size → w'.cell? ⟨b, o, none⟩ = w2.cell? ⟨b, o, none⟩) ∧ Kp w2 w')) (by kernel_rfl) ?_ (fun hHd => ?_); (focus ((try dsimp only); (first | with_reducible assumption | with_reducible exact held_start _ | with_reducible exact held_next (by assumption) (by assumption) | with_reducible exact held_alloc (by assumption) _ | with_reducible exact held_drew (by assumption) | ((with_reducible refine held_kp ?_); (repeat (first | with_reducible assumption | with_reducible exact Kp.refl _ | with_reducible refine Kp.drew ?_ | with_reducible refine Kp.drewN ?_ _ | with_reducible refine Kp.alloc ?_ _ | ((with_reducible refine Kp.setCell ?_ ?_ _); rotate_left; (focus (first | omega | (simp; done) | (simp; omega)))) | with_reducible refine Kp.trans ?_ (by assumption))))))))
  (refine takeH (i := 0) (oi := ?o7) (v := ?v7) ?h7 (by kernel_rfl) ?q7 (Or.inl ⟨?w7, ?y7⟩) (by assumption) ?r7; (case h7 => ((simp only [g1, g3]); rfl)); (case q7 => exact fun _ _ _ h => h); (case w7 => rfl); (case y7 => (intro w' hSw; (try dsimp only at hSw); go_simp; (try with_reducible rfl))); (try simp only [Act.put, s1, s2, s3]))
  (refine takeH (i := 1) (oi := ?o8) (v := ?v8) ?h8 (by kernel_rfl) ?q8 (Or.inl ⟨?w8, ?y8⟩) (by assumption) ?r8; (case h8 => ((simp only [g1, g2, g3]); rfl)); (case q8 => exact fun _ _ _ h => h); (case w8 => rfl); (case y8 => (intro w' hSw; (try dsimp only at hSw); go_simp; (try with_reducible rfl))); (try simp only [Act.put, s1, s2, s3]))
  (refine takeH (i := 2) (oi := ?o9) (v := ?v9) ?h9 (by kernel_rfl) ?q9 (Or.inl ⟨?w9, ?y9⟩) (by assumption) ?r9; (case h9 => ((simp only [g1, g2, g3]); rfl)); (case q9 => exact fun _ _ _ h => h); (case w9 => rfl); (case y9 => (intro w' hSw; (try dsimp only at hSw); go_simp; (try with_reducible rfl))); (try simp only [Act.put, s1, s2, s3]))
  (refine takeH (i := 3) (oi := ?o10) (v := ?v10) ?h10 (by kernel_rfl) ?q10 (Or.inl ⟨?w10, ?y10⟩) (by assumption) ?r10; (case h10 => ((simp only [g1, g2, g3]); rfl)); (case q10 => exact fun _ _ _ h => h); (case w10 => rfl); (case y10 => (intro w' hSw; (try dsimp only at hSw); go_simp; (try with_reducible rfl))); (try simp only [Act.put, s1, s2, s3]))
  (refine takeH (i := 4) (oi := ?o11) (v := ?v11) ?h11 (by kernel_rfl) ?q11 (Or.inl ⟨?w11, ?y11⟩) (by assumption) ?r11; (case h11 => ((simp only [g1, g2, g3]); rfl)); (case q11 => exact fun _ _ _ h => h); (case w11 => rfl); (case y11 => (intro w' hSw; (try dsimp only at hSw); go_simp; (try with_reducible rfl))); (try simp only [Act.put, s1, s2, s3]))
  (refine takeH (i := 5) (oi := ?o12) (v := ?v12) ?h12 (by kernel_rfl) ?q12 (Or.inl ⟨?w12, ?y12⟩) (by assumption) ?r12; (case h12 => ((simp only [g1, g2, g3]); rfl)); (case q12 => exact fun _ _ _ h => h); (case w12 => rfl); (case y12 => (intro w' hSw; (try dsimp only at hSw); go_simp; (try with_reducible rfl))); (try simp only [Act.put, s1, s2, s3]))
  (refine takeH (i := 6) (oi := ?o13) (v := ?v13) ?h13 (by kernel_rfl) ?q13 (Or.inl ⟨?w13, ?y13⟩) (by assumption) ?r13; (case h13 => ((simp only [g1, g2, g3]); rfl)); (case q13 => exact fun _ _ _ h => h); (case w13 => rfl); (case y13 => (intro w' hSw; (try dsimp only at hSw); go_simp; (try with_reducible rfl))); (try simp only [Act.put, s1, s2, s3]))
  (refine takeH (i := 7) (oi := ?o14) (v := ?v14) ?h14 (by kernel_rfl) ?q14 (Or.inl ⟨?w14, ?y14⟩) (by assumption) ?r14; (case h14 => ((simp only [g1, g2, g3]); rfl)); (case q14 => exact fun _ _ _ h => h); (case w14 => rfl); (case y14 => (intro w' hSw; (try dsimp only at hSw); go_simp; (try with_reducible rfl))); (try simp only [Act.put, s1, s2, s3]))
  (refine wpAnyH_ready (rs := [8]) (by kernel_rfl) (by simp) ?_; refine AllReadyH.cons (o := ?o15) ?h15 (fun K hK => ?s15) AllReadyH.nil; (case h15 => (first | ((simp only [g1, g2, g3]); rfl) | rfl)); go_simp; (try dsimp only); refine hK.out _ _ ?_ (fun hHd => ?_); (focus ((try dsimp only); (first | with_reducible assumption | with_reducible exact held_start _ | with_reducible exact held_next (by assumption) (by assumption) | with_reducible exact held_alloc (by assumption) _ | with_reducible exact held_drew (by assumption) | ((with_reducible refine held_kp ?_); (repeat (first | with_reducible assumption | with_reducible exact Kp.refl _ | with_reducible refine Kp.drew ?_ | with_reducible refine Kp.drewN ?_ _ | with_reducible refine Kp.alloc ?_ _ | ((with_reducible refine Kp.setCell ?_ ?_ _); rotate_left; (focus (first | omega | (simp; done) | (simp; omega)))) | with_reducible refine Kp.trans ?_ (by assumption))))))); clear hK K; (try simp only [Act.put, s1, s2, s3]))
  (refine wpAnyH_ready (rs := [9]) (by kernel_rfl) (by simp) ?_; refine AllReadyH.cons (o := ?o16) ?h16 (fun K hK => ?s16) AllReadyH.nil; (case h16 => (first | ((simp only [g1, g2, g3]); rfl) | rfl)); go_simp; (first | (go_at_call 31; refine (line_any _ _ [98, 111, 120] [n, y, h] _ (HE.out.kp (kw2.trans hHd.2)).env (sl_blk (t := 2) (by (repeat (first | with_reducible assumption | ((with_reducible refine Blk.newL ?_ ?_); (focus (first | (simp; done) | omega)); rfl) | with_reducible refine Blk.drew ?_ | with_reducible refine Blk.drewN ?_ _ | with_reducible refine Blk.alloc ?_ _ | ((with_reducible refine Blk.other ?_ ?_ _); rotate_left; (focus (first | with_reducible assumption | omega | (simp; done) | (simp; omega))))))) (by simp)) HI.out (by simp) (by simp)).mono ?_; rintro e w3 ⟨rfl, kk⟩)); (try dsimp only); refine hK.out _ _ ?_ (fun hHd => ?_); (focus ((try dsimp only); (first | with_reducible assumption | with_reducible exact held_next (by assumption) (by assumption) | with_reducible exact held_alloc (by assumption) _))); clear hK K; (try simp only [Act.put, s1, s2, s3]))
  (refine takeH (i := 10) (oi := ?o17) (v := ?v17) ?h17 (by kernel_rfl) ?q17 (Or.inl ⟨?w17, ?y17⟩) (by assumption) ?r17; (case h17 => ((simp only [g1, g2, g3]); rfl)); (case q17 => exact fun _ _ _ h => h); (case w17 => rfl); (case y17 => (intro w' hSw; (try dsimp only at hSw); go_simp; (try with_reducible rfl))); (try simp only [Act.put, s1, s2, s3]))
  refine wpAnyH_done (by kernel_rfl) ?_ _
  go_wp2_with fail
  (try go_ret)
  exact ⟨rfl, (by (repeat (first | with_reducible assumption | with_reducible exact Kp.refl _ | with_reducible refine Kp.drew ?_ | with_reducible refine Kp.drewN ?_ _ | with_reducible refine Kp.alloc ?_ _ | ((with_reducible refine Kp.setCell ?_ ?_ _); rotate_left; (focus (first | omega | (simp; done) | (simp; omega)))) | with_reducible refine Kp.trans ?_ (by assumption))))⟩
set_option maxRecDepth 100000 in
set_option maxHeartbeats 2000000 in
theorem put_float (p : Put) (hp : p.ok) (w : World) (he : EnvN w) (hk : p.k = 2) :
    Calls Tryd.prog 12 #[.agg #[.int .i64 p.k, .int .i64 p.n, .int .i64 p.l, .int .i64 p.y, .int .i64 p.h]] w fun e w' => e = .returned (sv (lineL [102, 108, 111, 97, 116] [p.n, p.y, p.h])) ∧ Kp w w' := by
  obtain ⟨k, n, l, y, h⟩ := p
  simp only at hk ⊢
  subst hk
  have HE := Lib.hid he
  have HP := Lib.hid hp
  have HI : Hid (∀ x, x ∈ [n, y, h] → I64 x) := Lib.hid (by
    obtain ⟨p0, p1, p2, p3, p4⟩ := HP.out
    simp only at p0 p1 p2 p3 p4
    intro x hx
    simp only [List.mem_cons, List.not_mem_nil, or_false] at hx
    rcases hx with rfl | rfl | rfl <;> assumption)
  clear he hp
  go_enter Tryd.func12, Tryd.ntmps12
  go_wp2_with fail
  
  refine named_world (F := fun w1 => Blk w1 w.heap.size [.int .i64 2, .int .i64 n, .int .i64 l, .int .i64 y, .int .i64 h] 33 ∧ Kp w w1) ⟨(by (repeat (first | with_reducible assumption | ((with_reducible refine Blk.newL ?_ ?_); (focus (first | (simp; done) | omega)); rfl) | with_reducible refine Blk.drew ?_ | with_reducible refine Blk.drewN ?_ _ | with_reducible refine Blk.alloc ?_ _ | ((with_reducible refine Blk.other ?_ ?_ _); rotate_left; (focus (first | with_reducible assumption | omega | (simp; done) | (simp; omega))))))), (by (repeat (first | with_reducible assumption | with_reducible exact Kp.refl _ | with_reducible refine Kp.drew ?_ | with_reducible refine Kp.drewN ?_ _ | with_reducible refine Kp.alloc ?_ _ | ((with_reducible refine Kp.setCell ?_ ?_ _); rotate_left; (focus (first | omega | (simp; done) | (simp; omega)))) | with_reducible refine Kp.trans ?_ (by assumption))))⟩ ?_; rintro w1 ⟨bp, kw1⟩; have bp_0 := bp.cell 0 rfl; have bp_1 := bp.cell 1 rfl; have bp_2 := bp.cell 2 rfl; have bp_3 := bp.cell 3 rfl; have bp_4 := bp.cell 4 rfl; have bp_ne := bp.lt; have bp_n1 := Nat.lt_add_one_of_lt bp_ne; have bp_n2 := Nat.lt_add_one_of_lt bp_n1
  (refine wp_region_held_drew (S := (fun w' => (∀ b o, b < w1.heap.size → w'.cell? ⟨b, o, none⟩ = w1.cell? ⟨b, o, none⟩) ∧ Kp w1 w')) (by kernel_rfl) ?_ (fun hHd => ?_); (focus ((try dsimp only); (first | with_reducible assumption | with_reducible exact held_start _ | with_reducible exact held_next (by assumption) (by assumption) | with_reducible exact held_alloc (by assumption) _ | with_reducible exact held_drew (by assumption) | ((with_reducible refine held_kp ?_); (repeat (first | with_reducible assumption | with_reducible exact Kp.refl _ | with_reducible refine Kp.drew ?_ | with_reducible refine Kp.drewN ?_ _ | with_reducible refine Kp.alloc ?_ _ | ((with_reducible refine Kp.setCell ?_ ?_ _); rotate_left; (focus (first | omega | (simp; done) | (simp; omega)))) | with_reducible refine Kp.trans ?_ (by assumption))))))))
  (refine takeH (i := 0) (oi := ?o18) (v := ?v18) ?h18 (by kernel_rfl) ?q18 (Or.inl ⟨?w18, ?y18⟩) (by assumption) ?r18; (case h18 => ((simp only [g1, g3]); rfl)); (case q18 => exact fun _ _ _ h => h); (case w18 => rfl); (case y18 => (intro w' hSw; (try dsimp only at hSw); go_simp; (try with_reducible rfl))); (try simp only [Act.put, s1, s2, s3]))
  (refine takeH (i := 1) (oi := ?o19) (v := ?v19) ?h19 (by kernel_rfl) ?q19 (Or.inl ⟨?w19, ?y19⟩) (by assumption) ?r19; (case h19 => ((simp only [g1, g2, g3]); rfl)); (case q19 => exact fun _ _ _ h => h); (case w19 => rfl); (case y19 => (intro w' hSw; (try dsimp only at hSw); go_simp; (try with_reducible rfl))); (try simp only [Act.put, s1, s2, s3]))
  (refine takeH (i := 2) (oi := ?o20) (v := ?v20) ?h20 (by kernel_rfl) ?q20 (Or.inl ⟨?w20, ?y20⟩) (by assumption) ?r20; (case h20 => ((simp only [g1, g2, g3]); rfl)); (case q20 => exact fun _ _ _ h => h); (case w20 => rfl); (case y20 => (intro w' hSw; (try dsimp only at hSw); go_simp; (try with_reducible rfl))); (try simp only [Act.put, s1, s2, s3]))
  (refine takeH (i := 3) (oi := ?o21) (v := ?v21) ?h21 (by kernel_rfl) ?q21 (Or.inl ⟨?w21, ?y21⟩) (by assumption) ?r21; (case h21 => ((simp only [g1, g2, g3]); rfl)); (case q21 => exact fun _ _ _ h => h); (case w21 => rfl); (case y21 => (intro w' hSw; (try dsimp only at hSw); go_simp; (try with_reducible rfl))); (try simp only [Act.put, s1, s2, s3]))
  (refine takeH (i := 4) (oi := ?o22) (v := ?v22) ?h22 (by kernel_rfl) ?q22 (Or.inl ⟨?w22, ?y22⟩) (by assumption) ?r22; (case h22 => ((simp only [g1, g2, g3]); rfl)); (case q22 => exact fun _ _ _ h => h); (case w22 => rfl); (case y22 => (intro w' hSw; (try dsimp only at hSw); go_simp; (try with_reducible rfl))); (try simp only [Act.put, s1, s2, s3]))
  (refine takeH (i := 5) (oi := ?o23) (v := ?v23) ?h23 (by kernel_rfl) ?q23 (Or.inl ⟨?w23, ?y23⟩) (by assumption) ?r23; (case h23 => ((simp only [g1, g2, g3]); rfl)); (case q23 => exact fun _ _ _ h => h); (case w23 => rfl); (case y23 => (intro w' hSw; (try dsimp only at hSw); go_simp; (try with_reducible rfl))); (try simp only [Act.put, s1, s2, s3]))
  refine wpAnyH_done (by kernel_rfl) ?_ _
  go_wp2_with fail
  refine (known_any _ _).mono ?_
  rintro e w2 ⟨rfl, rfl⟩
  have j1 : knownB 2 = true := rfl
  go_wp2_with fail
  refine named_world (F := fun w2 => Blk w2 w.heap.size [.int .i64 2, .int .i64 n, .int .i64 l, .int .i64 y, .int .i64 h] 33 ∧ Kp w w2) ⟨(by (repeat (first | with_reducible assumption | ((with_reducible refine Blk.newL ?_ ?_); (focus (first | (simp; done) | omega)); rfl) | with_reducible refine Blk.drew ?_ | with_reducible refine Blk.drewN ?_ _ | with_reducible refine Blk.alloc ?_ _ | ((with_reducible refine Blk.other ?_ ?_ _); rotate_left; (focus (first | with_reducible assumption | omega | (simp; done) | (simp; omega))))))), (by (repeat (first | with_reducible assumption | with_reducible exact Kp.refl _ | with_reducible refine Kp.drew ?_ | with_reducible refine Kp.drewN ?_ _ | with_reducible refine Kp.alloc ?_ _ | ((with_reducible refine Kp.setCell ?_ ?_ _); rotate_left; (focus (first | omega | (simp; done) | (simp; omega)))) | with_reducible refine Kp.trans ?_ (by assumption))))⟩ ?_; clear bp bp_0 bp_1 bp_2 bp_3 bp_4 bp_ne bp_n1 bp_n2; rintro w2 ⟨bp, kw2⟩; have bp_0 := bp.cell 0 rfl; have bp_1 := bp.cell 1 rfl; have bp_2 := bp.cell 2 rfl; have bp_3 := bp.cell 3 rfl; have bp_4 := bp.cell 4 rfl; have bp_ne := bp.lt; have bp_n1 := Nat.lt_add_one_of_lt bp_ne; have bp_n2 := Nat.lt_add_one_of_lt bp_n1
  have d1 := (HE.out.kp kw2).name 2 rfl
  have d0 := World.block_lt_of_cell? _ _ d1
  (refine wp_region_held_drew (S := (fun w' => (∀ b o, b < w2.heap.size → w'.cell? ⟨b, o, none⟩ = w2.cell? ⟨b, o, none⟩) ∧ Kp w2 w')) (by kernel_rfl) ?_ (fun hHd => ?_); (focus ((try dsimp only); (first | with_reducible assumption | with_reducible exact held_start _ | with_reducible exact held_next (by assumption) (by assumption) | with_reducible exact held_alloc (by assumption) _ | with_reducible exact held_drew (by assumption) | ((with_reducible refine held_kp ?_); (repeat (first | with_reducible assumption | with_reducible exact Kp.refl _ | with_reducible refine Kp.drew ?_ | with_reducible refine Kp.drewN ?_ _ | with_reducible refine Kp.alloc ?_ _ | ((with_reducible refine Kp.setCell ?_ ?_ _); rotate_left; (focus (first | omega | (simp; done) | (simp; omega)))) | with_reducible refine Kp.trans ?_ (by assumption))))))))
  (refine takeH (i := 0) (oi := ?o24) (v := ?v24) ?h24 (by kernel_rfl) ?q24 (Or.inl ⟨?w24, ?y24⟩) (by assumption) ?r24; (case h24 => ((simp only [g1, g3]); rfl)); (case q24 => exact fun _ _ _ h => h); (case w24 => rfl); (case y24 => (intro w' hSw; (try dsimp only at hSw); go_simp; (try with_reducible rfl))); (try simp only [Act.put, s1, s2, s3]))
  (refine takeH (i := 1) (oi := ?o25) (v := ?v25) ?h25 (by kernel_rfl) ?q25 (Or.inl ⟨?w25, ?y25⟩) (by assumption) ?r25; (case h25 => ((simp only [g1, g2, g3]); rfl)); (case q25 => exact fun _ _ _ h => h); (case w25 => rfl); (case y25 => (intro w' hSw; (try dsimp only at hSw); go_simp; (try with_reducible rfl))); (try simp only [Act.put, s1, s2, s3]))
  (refine takeH (i := 2) (oi := ?o26) (v := ?v26) ?h26 (by kernel_rfl) ?q26 (Or.inl ⟨?w26, ?y26⟩) (by assumption) ?r26; (case h26 => ((simp only [g1, g2, g3]); rfl)); (case q26 => exact fun _ _ _ h => h); (case w26 => rfl); (case y26 => (intro w' hSw; (try dsimp only at hSw); go_simp; (try with_reducible rfl))); (try simp only [Act.put, s1, s2, s3]))
  (refine takeH (i := 3) (oi := ?o27) (v := ?v27) ?h27 (by kernel_rfl) ?q27 (Or.inl ⟨?w27, ?y27⟩) (by assumption) ?r27; (case h27 => ((simp only [g1, g2, g3]); rfl)); (case q27 => exact fun _ _ _ h => h); (case w27 => rfl); (case y27 => (intro w' hSw; (try dsimp only at hSw); go_simp; (try with_reducible rfl))); (try simp only [Act.put, s1, s2, s3]))
  (refine takeH (i := 4) (oi := ?o28) (v := ?v28) ?h28 (by kernel_rfl) ?q28 (Or.inl ⟨?w28, ?y28⟩) (by assumption) ?r28; (case h28 => ((simp only [g1, g2, g3]); rfl)); (case q28 => exact fun _ _ _ h => h); (case w28 => rfl); (case y28 => (intro w' hSw; (try dsimp only at hSw); go_simp; (try with_reducible rfl))); (try simp only [Act.put, s1, s2, s3]))
  (refine takeH (i := 5) (oi := ?o29) (v := ?v29) ?h29 (by kernel_rfl) ?q29 (Or.inl ⟨?w29, ?y29⟩) (by assumption) ?r29; (case h29 => ((simp only [g1, g2, g3]); rfl)); (case q29 => exact fun _ _ _ h => h); (case w29 => rfl); (case y29 => (intro w' hSw; (try dsimp only at hSw); go_simp; (try with_reducible rfl))); (try simp only [Act.put, s1, s2, s3]))
  (refine takeH (i := 6) (oi := ?o30) (v := ?v30) ?h30 (by kernel_rfl) ?q30 (Or.inl ⟨?w30, ?y30⟩) (by assumption) ?r30; (case h30 => ((simp only [g1, g2, g3]); rfl)); (case q30 => exact fun _ _ _ h => h); (case w30 => rfl); (case y30 => (intro w' hSw; (try dsimp only at hSw); go_simp; (try with_reducible rfl))); (try simp only [Act.put, s1, s2, s3]))
  (refine takeH (i := 7) (oi := ?o31) (v := ?v31) ?h31 (by kernel_rfl) ?q31 (Or.inl ⟨?w31, ?y31⟩) (by assumption) ?r31; (case h31 => ((simp only [g1, g2, g3]); rfl)); (case q31 => exact fun _ _ _ h => h); (case w31 => rfl); (case y31 => (intro w' hSw; (try dsimp only at hSw); go_simp; (try with_reducible rfl))); (try simp only [Act.put, s1, s2, s3]))
  (refine wpAnyH_ready (rs := [8]) (by kernel_rfl) (by simp) ?_; refine AllReadyH.cons (o := ?o32) ?h32 (fun K hK => ?s32) AllReadyH.nil; (case h32 => (first | ((simp only [g1, g2, g3]); rfl) | rfl)); go_simp; (try dsimp only); refine hK.out _ _ ?_ (fun hHd => ?_); (focus ((try dsimp only); (first | with_reducible assumption | with_reducible exact held_start _ | with_reducible exact held_next (by assumption) (by assumption) | with_reducible exact held_alloc (by assumption) _ | with_reducible exact held_drew (by assumption) | ((with_reducible refine held_kp ?_); (repeat (first | with_reducible assumption | with_reducible exact Kp.refl _ | with_reducible refine Kp.drew ?_ | with_reducible refine Kp.drewN ?_ _ | with_reducible refine Kp.alloc ?_ _ | ((with_reducible refine Kp.setCell ?_ ?_ _); rotate_left; (focus (first | omega | (simp; done) | (simp; omega)))) | with_reducible refine Kp.trans ?_ (by assumption))))))); clear hK K; (try simp only [Act.put, s1, s2, s3]))
  (refine wpAnyH_ready (rs := [9]) (by kernel_rfl) (by simp) ?_; refine AllReadyH.cons (o := ?o33) ?h33 (fun K hK => ?s33) AllReadyH.nil; (case h33 => (first | ((simp only [g1, g2, g3]); rfl) | rfl)); go_simp; (first | (go_at_call 31; refine (line_any _ _ [102, 108, 111, 97, 116] [n, y, h] _ (HE.out.kp (kw2.trans hHd.2)).env (sl_blk (t := 2) (by (repeat (first | with_reducible assumption | ((with_reducible refine Blk.newL ?_ ?_); (focus (first | (simp; done) | omega)); rfl) | with_reducible refine Blk.drew ?_ | with_reducible refine Blk.drewN ?_ _ | with_reducible refine Blk.alloc ?_ _ | ((with_reducible refine Blk.other ?_ ?_ _); rotate_left; (focus (first | with_reducible assumption | omega | (simp; done) | (simp; omega))))))) (by simp)) HI.out (by simp) (by simp)).mono ?_; rintro e w3 ⟨rfl, kk⟩)); (try dsimp only); refine hK.out _ _ ?_ (fun hHd => ?_); (focus ((try dsimp only); (first | with_reducible assumption | with_reducible exact held_next (by assumption) (by assumption) | with_reducible exact held_alloc (by assumption) _))); clear hK K; (try simp only [Act.put, s1, s2, s3]))
  (refine takeH (i := 10) (oi := ?o34) (v := ?v34) ?h34 (by kernel_rfl) ?q34 (Or.inl ⟨?w34, ?y34⟩) (by assumption) ?r34; (case h34 => ((simp only [g1, g2, g3]); rfl)); (case q34 => exact fun _ _ _ h => h); (case w34 => rfl); (case y34 => (intro w' hSw; (try dsimp only at hSw); go_simp; (try with_reducible rfl))); (try simp only [Act.put, s1, s2, s3]))
  refine wpAnyH_done (by kernel_rfl) ?_ _
  go_wp2_with fail
  (try go_ret)
  exact ⟨rfl, (by (repeat (first | with_reducible assumption | with_reducible exact Kp.refl _ | with_reducible refine Kp.drew ?_ | with_reducible refine Kp.drewN ?_ _ | with_reducible refine Kp.alloc ?_ _ | ((with_reducible refine Kp.setCell ?_ ?_ _); rotate_left; (focus (first | omega | (simp; done) | (simp; omega)))) | with_reducible refine Kp.trans ?_ (by assumption))))⟩
set_option maxRecDepth 100000 in
set_option maxHeartbeats 2000000 in
theorem put_rule (p : Put) (hp : p.ok) (w : World) (he : EnvN w) (hk : p.k = 3) :
    Calls Tryd.prog 12 #[.agg #[.int .i64 p.k, .int .i64 p.n, .int .i64 p.l, .int .i64 p.y, .int .i64 p.h]] w fun e w' => e = .returned (sv (lineL [114, 117, 108, 101] [p.y, p.h])) ∧ Kp w w' := by
  obtain ⟨k, n, l, y, h⟩ := p
  simp only at hk ⊢
  subst hk
  have HE := Lib.hid he
  have HP := Lib.hid hp
  have HI : Hid (∀ x, x ∈ [y, h] → I64 x) := Lib.hid (by
    obtain ⟨p0, p1, p2, p3, p4⟩ := HP.out
    simp only at p0 p1 p2 p3 p4
    intro x hx
    simp only [List.mem_cons, List.not_mem_nil, or_false] at hx
    rcases hx with rfl | rfl <;> assumption)
  clear he hp
  go_enter Tryd.func12, Tryd.ntmps12
  go_wp2_with fail
  
  refine named_world (F := fun w1 => Blk w1 w.heap.size [.int .i64 3, .int .i64 n, .int .i64 l, .int .i64 y, .int .i64 h] 33 ∧ Kp w w1) ⟨(by (repeat (first | with_reducible assumption | ((with_reducible refine Blk.newL ?_ ?_); (focus (first | (simp; done) | omega)); rfl) | with_reducible refine Blk.drew ?_ | with_reducible refine Blk.drewN ?_ _ | with_reducible refine Blk.alloc ?_ _ | ((with_reducible refine Blk.other ?_ ?_ _); rotate_left; (focus (first | with_reducible assumption | omega | (simp; done) | (simp; omega))))))), (by (repeat (first | with_reducible assumption | with_reducible exact Kp.refl _ | with_reducible refine Kp.drew ?_ | with_reducible refine Kp.drewN ?_ _ | with_reducible refine Kp.alloc ?_ _ | ((with_reducible refine Kp.setCell ?_ ?_ _); rotate_left; (focus (first | omega | (simp; done) | (simp; omega)))) | with_reducible refine Kp.trans ?_ (by assumption))))⟩ ?_; rintro w1 ⟨bp, kw1⟩; have bp_0 := bp.cell 0 rfl; have bp_1 := bp.cell 1 rfl; have bp_2 := bp.cell 2 rfl; have bp_3 := bp.cell 3 rfl; have bp_4 := bp.cell 4 rfl; have bp_ne := bp.lt; have bp_n1 := Nat.lt_add_one_of_lt bp_ne; have bp_n2 := Nat.lt_add_one_of_lt bp_n1
  (refine wp_region_held_drew (S := (fun w' => (∀ b o, b < w1.heap.size → w'.cell? ⟨b, o, none⟩ = w1.cell? ⟨b, o, none⟩) ∧ Kp w1 w')) (by kernel_rfl) ?_ (fun hHd => ?_); (focus ((try dsimp only); (first | with_reducible assumption | with_reducible exact held_start _ | with_reducible exact held_next (by assumption) (by assumption) | with_reducible exact held_alloc (by assumption) _ | with_reducible exact held_drew (by assumption) | ((with_reducible refine held_kp ?_); (repeat (first | with_reducible assumption | with_reducible exact Kp.refl _ | with_reducible refine Kp.drew ?_ | with_reducible refine Kp.drewN ?_ _ | with_reducible refine Kp.alloc ?_ _ | ((with_reducible refine Kp.setCell ?_ ?_ _); rotate_left; (focus (first | omega | (simp; done) | (simp; omega)))) | with_reducible refine Kp.trans ?_ (by assumption))))))))
  (refine takeH (i := 0) (oi := ?o35) (v := ?v35) ?h35 (by kernel_rfl) ?q35 (Or.inl ⟨?w35, ?y35⟩) (by assumption) ?r35; (case h35 => ((simp only [g1, g3]); rfl)); (case q35 => exact fun _ _ _ h => h); (case w35 => rfl); (case y35 => (intro w' hSw; (try dsimp only at hSw); go_simp; (try with_reducible rfl))); (try simp only [Act.put, s1, s2, s3]))
  (refine takeH (i := 1) (oi := ?o36) (v := ?v36) ?h36 (by kernel_rfl) ?q36 (Or.inl ⟨?w36, ?y36⟩) (by assumption) ?r36; (case h36 => ((simp only [g1, g2, g3]); rfl)); (case q36 => exact fun _ _ _ h => h); (case w36 => rfl); (case y36 => (intro w' hSw; (try dsimp only at hSw); go_simp; (try with_reducible rfl))); (try simp only [Act.put, s1, s2, s3]))
  (refine takeH (i := 2) (oi := ?o37) (v := ?v37) ?h37 (by kernel_rfl) ?q37 (Or.inl ⟨?w37, ?y37⟩) (by assumption) ?r37; (case h37 => ((simp only [g1, g2, g3]); rfl)); (case q37 => exact fun _ _ _ h => h); (case w37 => rfl); (case y37 => (intro w' hSw; (try dsimp only at hSw); go_simp; (try with_reducible rfl))); (try simp only [Act.put, s1, s2, s3]))
  (refine takeH (i := 3) (oi := ?o38) (v := ?v38) ?h38 (by kernel_rfl) ?q38 (Or.inl ⟨?w38, ?y38⟩) (by assumption) ?r38; (case h38 => ((simp only [g1, g2, g3]); rfl)); (case q38 => exact fun _ _ _ h => h); (case w38 => rfl); (case y38 => (intro w' hSw; (try dsimp only at hSw); go_simp; (try with_reducible rfl))); (try simp only [Act.put, s1, s2, s3]))
  (refine takeH (i := 4) (oi := ?o39) (v := ?v39) ?h39 (by kernel_rfl) ?q39 (Or.inl ⟨?w39, ?y39⟩) (by assumption) ?r39; (case h39 => ((simp only [g1, g2, g3]); rfl)); (case q39 => exact fun _ _ _ h => h); (case w39 => rfl); (case y39 => (intro w' hSw; (try dsimp only at hSw); go_simp; (try with_reducible rfl))); (try simp only [Act.put, s1, s2, s3]))
  (refine takeH (i := 5) (oi := ?o40) (v := ?v40) ?h40 (by kernel_rfl) ?q40 (Or.inl ⟨?w40, ?y40⟩) (by assumption) ?r40; (case h40 => ((simp only [g1, g2, g3]); rfl)); (case q40 => exact fun _ _ _ h => h); (case w40 => rfl); (case y40 => (intro w' hSw; (try dsimp only at hSw); go_simp; (try with_reducible rfl))); (try simp only [Act.put, s1, s2, s3]))
  refine wpAnyH_done (by kernel_rfl) ?_ _
  go_wp2_with fail
  refine (known_any _ _).mono ?_
  rintro e w2 ⟨rfl, rfl⟩
  have j1 : knownB 3 = true := rfl
  have d1 := (HE.out.kp kw1).name 3 rfl
  go_wp2_with fail
  refine (line_any _ _ [114, 117, 108, 101] [y, h] _ (HE.out.kp (by (repeat (first | with_reducible assumption | with_reducible exact Kp.refl _ | with_reducible refine Kp.drew ?_ | with_reducible refine Kp.drewN ?_ _ | with_reducible refine Kp.alloc ?_ _ | ((with_reducible refine Kp.setCell ?_ ?_ _); rotate_left; (focus (first | omega | (simp; done) | (simp; omega)))) | with_reducible refine Kp.trans ?_ (by assumption))))).env (sl_blk (t := 2) (by (repeat (first | with_reducible assumption | ((with_reducible refine Blk.newL ?_ ?_); (focus (first | (simp; done) | omega)); rfl) | with_reducible refine Blk.drew ?_ | with_reducible refine Blk.drewN ?_ _ | with_reducible refine Blk.alloc ?_ _ | ((with_reducible refine Blk.other ?_ ?_ _); rotate_left; (focus (first | with_reducible assumption | omega | (simp; done) | (simp; omega))))))) (by simp)) HI.out (by simp) (by simp)).mono ?_
  rintro e w3 ⟨rfl, kk⟩
  go_wp2_with fail
  (try go_ret)
  exact ⟨rfl, (by (repeat (first | with_reducible assumption | with_reducible exact Kp.refl _ | with_reducible refine Kp.drew ?_ | with_reducible refine Kp.drewN ?_ _ | with_reducible refine Kp.alloc ?_ _ | ((with_reducible refine Kp.setCell ?_ ?_ _); rotate_left; (focus (first | omega | (simp; done) | (simp; omega)))) | with_reducible refine Kp.trans ?_ (by assumption))))⟩
set_option maxRecDepth 100000 in
set_option maxHeartbeats 2000000 in
theorem put_line (p : Put) (hp : p.ok) (w : World) (he : EnvN w) (hk : p.k = 4) :
    Calls Tryd.prog 12 #[.agg #[.int .i64 p.k, .int .i64 p.n, .int .i64 p.l, .int .i64 p.y, .int .i64 p.h]] w fun e w' => e = .returned (sv (lineL [108, 105, 110, 101] [p.n, p.l, p.y, p.h])) ∧ Kp w w' := by
  obtain ⟨k, n, l, y, h⟩ := p
  simp only at hk ⊢
  subst hk
  have HE := Lib.hid he
  have HP := Lib.hid hp
  have HI : Hid (∀ x, x ∈ [n, l, y, h] → I64 x) := Lib.hid (by
    obtain ⟨p0, p1, p2, p3, p4⟩ := HP.out
    simp only at p0 p1 p2 p3 p4
    intro x hx
    simp only [List.mem_cons, List.not_mem_nil, or_false] at hx
    rcases hx with rfl | rfl | rfl | rfl <;> assumption)
  clear he hp
  go_enter Tryd.func12, Tryd.ntmps12
  go_wp2_with fail
  
  refine named_world (F := fun w1 => Blk w1 w.heap.size [.int .i64 4, .int .i64 n, .int .i64 l, .int .i64 y, .int .i64 h] 33 ∧ Kp w w1) ⟨(by (repeat (first | with_reducible assumption | ((with_reducible refine Blk.newL ?_ ?_); (focus (first | (simp; done) | omega)); rfl) | with_reducible refine Blk.drew ?_ | with_reducible refine Blk.drewN ?_ _ | with_reducible refine Blk.alloc ?_ _ | ((with_reducible refine Blk.other ?_ ?_ _); rotate_left; (focus (first | with_reducible assumption | omega | (simp; done) | (simp; omega))))))), (by (repeat (first | with_reducible assumption | with_reducible exact Kp.refl _ | with_reducible refine Kp.drew ?_ | with_reducible refine Kp.drewN ?_ _ | with_reducible refine Kp.alloc ?_ _ | ((with_reducible refine Kp.setCell ?_ ?_ _); rotate_left; (focus (first | omega | (simp; done) | (simp; omega)))) | with_reducible refine Kp.trans ?_ (by assumption))))⟩ ?_; rintro w1 ⟨bp, kw1⟩; have bp_0 := bp.cell 0 rfl; have bp_1 := bp.cell 1 rfl; have bp_2 := bp.cell 2 rfl; have bp_3 := bp.cell 3 rfl; have bp_4 := bp.cell 4 rfl; have bp_ne := bp.lt; have bp_n1 := Nat.lt_add_one_of_lt bp_ne; have bp_n2 := Nat.lt_add_one_of_lt bp_n1
  (refine wp_region_held_drew (S := (fun w' => (∀ b o, b < w1.heap.size → w'.cell? ⟨b, o, none⟩ = w1.cell? ⟨b, o, none⟩) ∧ Kp w1 w')) (by kernel_rfl) ?_ (fun hHd => ?_); (focus ((try dsimp only); (first | with_reducible assumption | with_reducible exact held_start _ | with_reducible exact held_next (by assumption) (by assumption) | with_reducible exact held_alloc (by assumption) _ | with_reducible exact held_drew (by assumption) | ((with_reducible refine held_kp ?_); (repeat (first | with_reducible assumption | with_reducible exact Kp.refl _ | with_reducible refine Kp.drew ?_ | with_reducible refine Kp.drewN ?_ _ | with_reducible refine Kp.alloc ?_ _ | ((with_reducible refine Kp.setCell ?_ ?_ _); rotate_left; (focus (first | omega | (simp; done) | (simp; omega)))) | with_reducible refine Kp.trans ?_ (by assumption))))))))
  (refine takeH (i := 0) (oi := ?o41) (v := ?v41) ?h41 (by kernel_rfl) ?q41 (Or.inl ⟨?w41, ?y41⟩) (by assumption) ?r41; (case h41 => ((simp only [g1, g3]); rfl)); (case q41 => exact fun _ _ _ h => h); (case w41 => rfl); (case y41 => (intro w' hSw; (try dsimp only at hSw); go_simp; (try with_reducible rfl))); (try simp only [Act.put, s1, s2, s3]))
  (refine takeH (i := 1) (oi := ?o42) (v := ?v42) ?h42 (by kernel_rfl) ?q42 (Or.inl ⟨?w42, ?y42⟩) (by assumption) ?r42; (case h42 => ((simp only [g1, g2, g3]); rfl)); (case q42 => exact fun _ _ _ h => h); (case w42 => rfl); (case y42 => (intro w' hSw; (try dsimp only at hSw); go_simp; (try with_reducible rfl))); (try simp only [Act.put, s1, s2, s3]))
  (refine takeH (i := 2) (oi := ?o43) (v := ?v43) ?h43 (by kernel_rfl) ?q43 (Or.inl ⟨?w43, ?y43⟩) (by assumption) ?r43; (case h43 => ((simp only [g1, g2, g3]); rfl)); (case q43 => exact fun _ _ _ h => h); (case w43 => rfl); (case y43 => (intro w' hSw; (try dsimp only at hSw); go_simp; (try with_reducible rfl))); (try simp only [Act.put, s1, s2, s3]))
  (refine takeH (i := 3) (oi := ?o44) (v := ?v44) ?h44 (by kernel_rfl) ?q44 (Or.inl ⟨?w44, ?y44⟩) (by assumption) ?r44; (case h44 => ((simp only [g1, g2, g3]); rfl)); (case q44 => exact fun _ _ _ h => h); (case w44 => rfl); (case y44 => (intro w' hSw; (try dsimp only at hSw); go_simp; (try with_reducible rfl))); (try simp only [Act.put, s1, s2, s3]))
  (refine takeH (i := 4) (oi := ?o45) (v := ?v45) ?h45 (by kernel_rfl) ?q45 (Or.inl ⟨?w45, ?y45⟩) (by assumption) ?r45; (case h45 => ((simp only [g1, g2, g3]); rfl)); (case q45 => exact fun _ _ _ h => h); (case w45 => rfl); (case y45 => (intro w' hSw; (try dsimp only at hSw); go_simp; (try with_reducible rfl))); (try simp only [Act.put, s1, s2, s3]))
  (refine takeH (i := 5) (oi := ?o46) (v := ?v46) ?h46 (by kernel_rfl) ?q46 (Or.inl ⟨?w46, ?y46⟩) (by assumption) ?r46; (case h46 => ((simp only [g1, g2, g3]); rfl)); (case q46 => exact fun _ _ _ h => h); (case w46 => rfl); (case y46 => (intro w' hSw; (try dsimp only at hSw); go_simp; (try with_reducible rfl))); (try simp only [Act.put, s1, s2, s3]))
  refine wpAnyH_done (by kernel_rfl) ?_ _
  go_wp2_with fail
  refine (known_any _ _).mono ?_
  rintro e w2 ⟨rfl, rfl⟩
  have j1 : knownB 4 = true := rfl
  go_wp2_with fail
  refine named_world (F := fun w2 => Blk w2 w.heap.size [.int .i64 4, .int .i64 n, .int .i64 l, .int .i64 y, .int .i64 h] 33 ∧ Kp w w2) ⟨(by (repeat (first | with_reducible assumption | ((with_reducible refine Blk.newL ?_ ?_); (focus (first | (simp; done) | omega)); rfl) | with_reducible refine Blk.drew ?_ | with_reducible refine Blk.drewN ?_ _ | with_reducible refine Blk.alloc ?_ _ | ((with_reducible refine Blk.other ?_ ?_ _); rotate_left; (focus (first | with_reducible assumption | omega | (simp; done) | (simp; omega))))))), (by (repeat (first | with_reducible assumption | with_reducible exact Kp.refl _ | with_reducible refine Kp.drew ?_ | with_reducible refine Kp.drewN ?_ _ | with_reducible refine Kp.alloc ?_ _ | ((with_reducible refine Kp.setCell ?_ ?_ _); rotate_left; (focus (first | omega | (simp; done) | (simp; omega)))) | with_reducible refine Kp.trans ?_ (by assumption))))⟩ ?_; clear bp bp_0 bp_1 bp_2 bp_3 bp_4 bp_ne bp_n1 bp_n2; rintro w2 ⟨bp, kw2⟩; have bp_0 := bp.cell 0 rfl; have bp_1 := bp.cell 1 rfl; have bp_2 := bp.cell 2 rfl; have bp_3 := bp.cell 3 rfl; have bp_4 := bp.cell 4 rfl; have bp_ne := bp.lt; have bp_n1 := Nat.lt_add_one_of_lt bp_ne; have bp_n2 := Nat.lt_add_one_of_lt bp_n1
  have d1 := (HE.out.kp kw2).name 4 rfl
  have d0 := World.block_lt_of_cell? _ _ d1
  (refine wp_region_held_drew (S := (fun w' => (∀ b o, b < w2.heap.size → w'.cell? ⟨b, o, none⟩ = w2.cell? ⟨b, o, none⟩) ∧ Kp w2 w')) (by kernel_rfl) ?_ (fun hHd => ?_); (focus ((try dsimp only); (first | with_reducible assumption | with_reducible exact held_start _ | with_reducible exact held_next (by assumption) (by assumption) | with_reducible exact held_alloc (by assumption) _ | with_reducible exact held_drew (by assumption) | ((with_reducible refine held_kp ?_); (repeat (first | with_reducible assumption | with_reducible exact Kp.refl _ | with_reducible refine Kp.drew ?_ | with_reducible refine Kp.drewN ?_ _ | with_reducible refine Kp.alloc ?_ _ | ((with_reducible refine Kp.setCell ?_ ?_ _); rotate_left; (focus (first | omega | (simp; done) | (simp; omega)))) | with_reducible refine Kp.trans ?_ (by assumption))))))))
  (refine takeH (i := 0) (oi := ?o47) (v := ?v47) ?h47 (by kernel_rfl) ?q47 (Or.inl ⟨?w47, ?y47⟩) (by assumption) ?r47; (case h47 => ((simp only [g1, g3]); rfl)); (case q47 => exact fun _ _ _ h => h); (case w47 => rfl); (case y47 => (intro w' hSw; (try dsimp only at hSw); go_simp; (try with_reducible rfl))); (try simp only [Act.put, s1, s2, s3]))
  (refine takeH (i := 1) (oi := ?o48) (v := ?v48) ?h48 (by kernel_rfl) ?q48 (Or.inl ⟨?w48, ?y48⟩) (by assumption) ?r48; (case h48 => ((simp only [g1, g2, g3]); rfl)); (case q48 => exact fun _ _ _ h => h); (case w48 => rfl); (case y48 => (intro w' hSw; (try dsimp only at hSw); go_simp; (try with_reducible rfl))); (try simp only [Act.put, s1, s2, s3]))
  (refine takeH (i := 2) (oi := ?o49) (v := ?v49) ?h49 (by kernel_rfl) ?q49 (Or.inl ⟨?w49, ?y49⟩) (by assumption) ?r49; (case h49 => ((simp only [g1, g2, g3]); rfl)); (case q49 => exact fun _ _ _ h => h); (case w49 => rfl); (case y49 => (intro w' hSw; (try dsimp only at hSw); go_simp; (try with_reducible rfl))); (try simp only [Act.put, s1, s2, s3]))
  (refine takeH (i := 3) (oi := ?o50) (v := ?v50) ?h50 (by kernel_rfl) ?q50 (Or.inl ⟨?w50, ?y50⟩) (by assumption) ?r50; (case h50 => ((simp only [g1, g2, g3]); rfl)); (case q50 => exact fun _ _ _ h => h); (case w50 => rfl); (case y50 => (intro w' hSw; (try dsimp only at hSw); go_simp; (try with_reducible rfl))); (try simp only [Act.put, s1, s2, s3]))
  (refine takeH (i := 4) (oi := ?o51) (v := ?v51) ?h51 (by kernel_rfl) ?q51 (Or.inl ⟨?w51, ?y51⟩) (by assumption) ?r51; (case h51 => ((simp only [g1, g2, g3]); rfl)); (case q51 => exact fun _ _ _ h => h); (case w51 => rfl); (case y51 => (intro w' hSw; (try dsimp only at hSw); go_simp; (try with_reducible rfl))); (try simp only [Act.put, s1, s2, s3]))
  (refine takeH (i := 5) (oi := ?o52) (v := ?v52) ?h52 (by kernel_rfl) ?q52 (Or.inl ⟨?w52, ?y52⟩) (by assumption) ?r52; (case h52 => ((simp only [g1, g2, g3]); rfl)); (case q52 => exact fun _ _ _ h => h); (case w52 => rfl); (case y52 => (intro w' hSw; (try dsimp only at hSw); go_simp; (try with_reducible rfl))); (try simp only [Act.put, s1, s2, s3]))
  (refine takeH (i := 6) (oi := ?o53) (v := ?v53) ?h53 (by kernel_rfl) ?q53 (Or.inl ⟨?w53, ?y53⟩) (by assumption) ?r53; (case h53 => ((simp only [g1, g2, g3]); rfl)); (case q53 => exact fun _ _ _ h => h); (case w53 => rfl); (case y53 => (intro w' hSw; (try dsimp only at hSw); go_simp; (try with_reducible rfl))); (try simp only [Act.put, s1, s2, s3]))
  (refine takeH (i := 7) (oi := ?o54) (v := ?v54) ?h54 (by kernel_rfl) ?q54 (Or.inl ⟨?w54, ?y54⟩) (by assumption) ?r54; (case h54 => ((simp only [g1, g2, g3]); rfl)); (case q54 => exact fun _ _ _ h => h); (case w54 => rfl); (case y54 => (intro w' hSw; (try dsimp only at hSw); go_simp; (try with_reducible rfl))); (try simp only [Act.put, s1, s2, s3]))
  (refine takeH (i := 8) (oi := ?o55) (v := ?v55) ?h55 (by kernel_rfl) ?q55 (Or.inl ⟨?w55, ?y55⟩) (by assumption) ?r55; (case h55 => ((simp only [g1, g2, g3]); rfl)); (case q55 => exact fun _ _ _ h => h); (case w55 => rfl); (case y55 => (intro w' hSw; (try dsimp only at hSw); go_simp; (try with_reducible rfl))); (try simp only [Act.put, s1, s2, s3]))
  (refine takeH (i := 9) (oi := ?o56) (v := ?v56) ?h56 (by kernel_rfl) ?q56 (Or.inl ⟨?w56, ?y56⟩) (by assumption) ?r56; (case h56 => ((simp only [g1, g2, g3]); rfl)); (case q56 => exact fun _ _ _ h => h); (case w56 => rfl); (case y56 => (intro w' hSw; (try dsimp only at hSw); go_simp; (try with_reducible rfl))); (try simp only [Act.put, s1, s2, s3]))
  (refine wpAnyH_ready (rs := [10]) (by kernel_rfl) (by simp) ?_; refine AllReadyH.cons (o := ?o57) ?h57 (fun K hK => ?s57) AllReadyH.nil; (case h57 => (first | ((simp only [g1, g2, g3]); rfl) | rfl)); go_simp; (try dsimp only); refine hK.out _ _ ?_ (fun hHd => ?_); (focus ((try dsimp only); (first | with_reducible assumption | with_reducible exact held_start _ | with_reducible exact held_next (by assumption) (by assumption) | with_reducible exact held_alloc (by assumption) _ | with_reducible exact held_drew (by assumption) | ((with_reducible refine held_kp ?_); (repeat (first | with_reducible assumption | with_reducible exact Kp.refl _ | with_reducible refine Kp.drew ?_ | with_reducible refine Kp.drewN ?_ _ | with_reducible refine Kp.alloc ?_ _ | ((with_reducible refine Kp.setCell ?_ ?_ _); rotate_left; (focus (first | omega | (simp; done) | (simp; omega)))) | with_reducible refine Kp.trans ?_ (by assumption))))))); clear hK K; (try simp only [Act.put, s1, s2, s3]))
  (refine wpAnyH_ready (rs := [11]) (by kernel_rfl) (by simp) ?_; refine AllReadyH.cons (o := ?o58) ?h58 (fun K hK => ?s58) AllReadyH.nil; (case h58 => (first | ((simp only [g1, g2, g3]); rfl) | rfl)); go_simp; (first | (go_at_call 31; refine (line_any _ _ [108, 105, 110, 101] [n, l, y, h] _ (HE.out.kp (kw2.trans hHd.2)).env (sl_blk (t := 2) (by (repeat (first | with_reducible assumption | ((with_reducible refine Blk.newL ?_ ?_); (focus (first | (simp; done) | omega)); rfl) | with_reducible refine Blk.drew ?_ | with_reducible refine Blk.drewN ?_ _ | with_reducible refine Blk.alloc ?_ _ | ((with_reducible refine Blk.other ?_ ?_ _); rotate_left; (focus (first | with_reducible assumption | omega | (simp; done) | (simp; omega))))))) (by simp)) HI.out (by simp) (by simp)).mono ?_; rintro e w3 ⟨rfl, kk⟩)); (try dsimp only); refine hK.out _ _ ?_ (fun hHd => ?_); (focus ((try dsimp only); (first | with_reducible assumption | with_reducible exact held_next (by assumption) (by assumption) | with_reducible exact held_alloc (by assumption) _))); clear hK K; (try simp only [Act.put, s1, s2, s3]))
  (refine takeH (i := 12) (oi := ?o59) (v := ?v59) ?h59 (by kernel_rfl) ?q59 (Or.inl ⟨?w59, ?y59⟩) (by assumption) ?r59; (case h59 => ((simp only [g1, g2, g3]); rfl)); (case q59 => exact fun _ _ _ h => h); (case w59 => rfl); (case y59 => (intro w' hSw; (try dsimp only at hSw); go_simp; (try with_reducible rfl))); (try simp only [Act.put, s1, s2, s3]))
  refine wpAnyH_done (by kernel_rfl) ?_ _
  go_wp2_with fail
  (try go_ret)
  exact ⟨rfl, (by (repeat (first | with_reducible assumption | with_reducible exact Kp.refl _ | with_reducible refine Kp.drew ?_ | with_reducible refine Kp.drewN ?_ _ | with_reducible refine Kp.alloc ?_ _ | ((with_reducible refine Kp.setCell ?_ ?_ _); rotate_left; (focus (first | omega | (simp; done) | (simp; omega)))) | with_reducible refine Kp.trans ?_ (by assumption))))⟩
set_option maxRecDepth 100000 in
set_option maxHeartbeats 2000000 in
theorem put_thing (p : Put) (hp : p.ok) (w : World) (he : EnvN w) (hk : knownB p.k = false) :
    Calls Tryd.prog 12 #[.agg #[.int .i64 p.k, .int .i64 p.n, .int .i64 p.l, .int .i64 p.y, .int .i64 p.h]] w fun e w' => e = .returned (sv (lineL [116, 104, 105, 110, 103] [p.k, p.n, p.l, p.y, p.h])) ∧ Kp w w' := by
  obtain ⟨k, n, l, y, h⟩ := p
  simp only at hk ⊢
  have HE := Lib.hid he
  have HP := Lib.hid hp
  have HI : Hid (∀ x, x ∈ [k, n, l, y, h] → I64 x) := Lib.hid (by
    obtain ⟨p0, p1, p2, p3, p4⟩ := HP.out
    simp only at p0 p1 p2 p3 p4
    intro x hx
    simp only [List.mem_cons, List.not_mem_nil, or_false] at hx
    rcases hx with rfl | rfl | rfl | rfl | rfl <;> assumption)
  clear he hp
  go_enter Tryd.func12, Tryd.ntmps12
  go_wp2_with fail
  
  refine named_world (F := fun w1 => Blk w1 w.heap.size [.int .i64 k, .int .i64 n, .int .i64 l, .int .i64 y, .int .i64 h] 33 ∧ Kp w w1) ⟨(by (repeat (first | with_reducible assumption | ((with_reducible refine Blk.newL ?_ ?_); (focus (first | (simp; done) | omega)); rfl) | with_reducible refine Blk.drew ?_ | with_reducible refine Blk.drewN ?_ _ | with_reducible refine Blk.alloc ?_ _ | ((with_reducible refine Blk.other ?_ ?_ _); rotate_left; (focus (first | with_reducible assumption | omega | (simp; done) | (simp; omega))))))), (by (repeat (first | with_reducible assumption | with_reducible exact Kp.refl _ | with_reducible refine Kp.drew ?_ | with_reducible refine Kp.drewN ?_ _ | with_reducible refine Kp.alloc ?_ _ | ((with_reducible refine Kp.setCell ?_ ?_ _); rotate_left; (focus (first | omega | (simp; done) | (simp; omega)))) | with_reducible refine Kp.trans ?_ (by assumption))))⟩ ?_; rintro w1 ⟨bp, kw1⟩; have bp_0 := bp.cell 0 rfl; have bp_1 := bp.cell 1 rfl; have bp_2 := bp.cell 2 rfl; have bp_3 := bp.cell 3 rfl; have bp_4 := bp.cell 4 rfl; have bp_ne := bp.lt; have bp_n1 := Nat.lt_add_one_of_lt bp_ne; have bp_n2 := Nat.lt_add_one_of_lt bp_n1
  (refine wp_region_held_drew (S := (fun w' => (∀ b o, b < w1.heap.size → w'.cell? ⟨b, o, none⟩ = w1.cell? ⟨b, o, none⟩) ∧ Kp w1 w')) (by kernel_rfl) ?_ (fun hHd => ?_); (focus ((try dsimp only); (first | with_reducible assumption | with_reducible exact held_start _ | with_reducible exact held_next (by assumption) (by assumption) | with_reducible exact held_alloc (by assumption) _ | with_reducible exact held_drew (by assumption) | ((with_reducible refine held_kp ?_); (repeat (first | with_reducible assumption | with_reducible exact Kp.refl _ | with_reducible refine Kp.drew ?_ | with_reducible refine Kp.drewN ?_ _ | with_reducible refine Kp.alloc ?_ _ | ((with_reducible refine Kp.setCell ?_ ?_ _); rotate_left; (focus (first | omega | (simp; done) | (simp; omega)))) | with_reducible refine Kp.trans ?_ (by assumption))))))))
  (refine takeH (i := 0) (oi := ?o60) (v := ?v60) ?h60 (by kernel_rfl) ?q60 (Or.inl ⟨?w60, ?y60⟩) (by assumption) ?r60; (case h60 => ((simp only [g1, g3]); rfl)); (case q60 => exact fun _ _ _ h => h); (case w60 => rfl); (case y60 => (intro w' hSw; (try dsimp only at hSw); go_simp; (try with_reducible rfl))); (try simp only [Act.put, s1, s2, s3]))
  (refine takeH (i := 1) (oi := ?o61) (v := ?v61) ?h61 (by kernel_rfl) ?q61 (Or.inl ⟨?w61, ?y61⟩) (by assumption) ?r61; (case h61 => ((simp only [g1, g2, g3]); rfl)); (case q61 => exact fun _ _ _ h => h); (case w61 => rfl); (case y61 => (intro w' hSw; (try dsimp only at hSw); go_simp; (try with_reducible rfl))); (try simp only [Act.put, s1, s2, s3]))
  (refine takeH (i := 2) (oi := ?o62) (v := ?v62) ?h62 (by kernel_rfl) ?q62 (Or.inl ⟨?w62, ?y62⟩) (by assumption) ?r62; (case h62 => ((simp only [g1, g2, g3]); rfl)); (case q62 => exact fun _ _ _ h => h); (case w62 => rfl); (case y62 => (intro w' hSw; (try dsimp only at hSw); go_simp; (try with_reducible rfl))); (try simp only [Act.put, s1, s2, s3]))
  (refine takeH (i := 3) (oi := ?o63) (v := ?v63) ?h63 (by kernel_rfl) ?q63 (Or.inl ⟨?w63, ?y63⟩) (by assumption) ?r63; (case h63 => ((simp only [g1, g2, g3]); rfl)); (case q63 => exact fun _ _ _ h => h); (case w63 => rfl); (case y63 => (intro w' hSw; (try dsimp only at hSw); go_simp; (try with_reducible rfl))); (try simp only [Act.put, s1, s2, s3]))
  (refine takeH (i := 4) (oi := ?o64) (v := ?v64) ?h64 (by kernel_rfl) ?q64 (Or.inl ⟨?w64, ?y64⟩) (by assumption) ?r64; (case h64 => ((simp only [g1, g2, g3]); rfl)); (case q64 => exact fun _ _ _ h => h); (case w64 => rfl); (case y64 => (intro w' hSw; (try dsimp only at hSw); go_simp; (try with_reducible rfl))); (try simp only [Act.put, s1, s2, s3]))
  (refine takeH (i := 5) (oi := ?o65) (v := ?v65) ?h65 (by kernel_rfl) ?q65 (Or.inl ⟨?w65, ?y65⟩) (by assumption) ?r65; (case h65 => ((simp only [g1, g2, g3]); rfl)); (case q65 => exact fun _ _ _ h => h); (case w65 => rfl); (case y65 => (intro w' hSw; (try dsimp only at hSw); go_simp; (try with_reducible rfl))); (try simp only [Act.put, s1, s2, s3]))
  refine wpAnyH_done (by kernel_rfl) ?_ _
  go_wp2_with fail
  refine (known_any _ _).mono ?_
  rintro e w2 ⟨rfl, rfl⟩
  go_wp2_with fail
  refine (line_any _ _ [116, 104, 105, 110, 103] [k, n, l, y, h] _ (HE.out.kp (by (repeat (first | with_reducible assumption | with_reducible exact Kp.refl _ | with_reducible refine Kp.drew ?_ | with_reducible refine Kp.drewN ?_ _ | with_reducible refine Kp.alloc ?_ _ | ((with_reducible refine Kp.setCell ?_ ?_ _); rotate_left; (focus (first | omega | (simp; done) | (simp; omega)))) | with_reducible refine Kp.trans ?_ (by assumption))))).env (sl_blk (t := 2) (by (repeat (first | with_reducible assumption | ((with_reducible refine Blk.newL ?_ ?_); (focus (first | (simp; done) | omega)); rfl) | with_reducible refine Blk.drew ?_ | with_reducible refine Blk.drewN ?_ _ | with_reducible refine Blk.alloc ?_ _ | ((with_reducible refine Blk.other ?_ ?_ _); rotate_left; (focus (first | with_reducible assumption | omega | (simp; done) | (simp; omega))))))) (by simp)) HI.out (by simp) (by simp)).mono ?_
  rintro e w3 ⟨rfl, kk⟩
  go_wp2_with fail
  (try go_ret)
  exact ⟨rfl, (by (repeat (first | with_reducible assumption | with_reducible exact Kp.refl _ | with_reducible refine Kp.drew ?_ | with_reducible refine Kp.drewN ?_ _ | with_reducible refine Kp.alloc ?_ _ | ((with_reducible refine Kp.setCell ?_ ?_ _); rotate_left; (focus (first | omega | (simp; done) | (simp; omega)))) | with_reducible refine Kp.trans ?_ (by assumption))))⟩
theorem put_any (p : Put) (hp : p.ok) (w : World) (he : EnvN w) :
    Calls Tryd.prog 12 #[.agg #[.int .i64 p.k, .int .i64 p.n, .int .i64 p.l, .int .i64 p.y, .int .i64 p.h]] w fun e w' => e = .returned (sv (putL p)) ∧ Kp w w' := by
  unfold putL
  by_cases h1 : p.k = 1
  · rw [if_pos h1]; exact put_box p hp w he h1
  · rw [if_neg h1]
    by_cases h2 : p.k = 2
    · rw [if_pos h2]; exact put_float p hp w he h2
    · rw [if_neg h2]
      by_cases h3 : p.k = 3
      · rw [if_pos h3]; exact put_rule p hp w he h3
      · rw [if_neg h3]
        by_cases h4 : p.k = 4
        · rw [if_pos h4]; exact put_line p hp w he h4
        · rw [if_neg h4]
          refine put_thing p hp w he ?_
          unfold knownB
          by_cases c : 1 ≤ p.k
          · have c2 : ¬ p.k ≤ 4 := by omega
            simp [c2]
          · simp [c]
theorem putL_short (p : Put) (hp : p.ok) : (putL p).length ≤ 200 := by
  obtain ⟨p0, p1, p2, p3, p4⟩ := hp
  have q : ∀ (wd : List UInt8) (ns : List Int), (∀ x, x ∈ ns → I64 x) → wd.length ≤ 5 → ns.length ≤ 5 → (lineL wd ns).length ≤ 200 := by
    intro wd ns h1 h2 h3
    have := lineL_short (wd := wd) h1
    omega
  unfold putL
  split
  · exact q _ _ (by simp [*]) (by simp) (by simp)
  · split
    · exact q _ _ (by simp [*]) (by simp) (by simp)
    · split
      · exact q _ _ (by simp [*]) (by simp) (by simp)
      · split
        · exact q _ _ (by simp [*]) (by simp) (by simp)
        · exact q _ _ (by simp [*]) (by simp) (by simp)
end Go.Proofs.YteadhacoglcbfaaDoor
