/- The package variables that the rows list: what the condition gives a walk, and a world that meets it. -/
import Derived.Test.YtfiejiokconobaaDoorEnv

import Derived.LaidLaws

import Derived.Lib.LaidTab

import Derived.LaidHandle

namespace Go.Proofs.YtfiejiokconobaaDoor

open Go.RowKit

/-- An array of texts that reads as these texts holds them, cell for cell. -/
theorem cells_of_strs {H : Type} {enc : TypeId × Value → H} {P : Program} {w : World} {base : Nat} {sp : Nat → Bool} {held : Bool} {fuel : Nat} {t e : TypeId} {n : Nat} {cs : List Value} {zs : List (List UInt8)} {p : List MemPlace}
    (ht : P.underlying t = some (.array n e)) (he : P.underlying e = some .string) (hce : P.cellsOf e = 1) (hct : P.cellsOf t = n)
    (h : DataW.trod enc P w base sp held fuel t cs = some (.agg (zs.map fun z => .lit (.string z)), p)) : cs = zs.map sv := by
  cases fuel with
  | zero => simp [DataW.trod] at h
  | succ fuel =>
    simp only [DataW.trod, ht, hce, hct, Nat.mul_one] at h
    split at h
    · rename_i hl
      obtain ⟨xs, hm, hx⟩ := Option.map_eq_some_iff.1 h
      have hxs : xs.map (·.1) = zs.map fun z => (DataW.lit (.string z) : DataW H) := by
        have := congrArg Prod.fst hx
        simpa using this
      have hxl : xs.length = n := by simpa using Lib.mapM_length hm
      have hzl : zs.length = n := by
        have := congrArg List.length hxs
        simp at this
        omega
      apply List.ext_getElem?
      intro i
      by_cases hi : i < n
      · obtain ⟨b, hb, hf⟩ := Lib.mapM_at hm i i (by simp [hi])
        obtain ⟨s, hc, rfl, _⟩ := DataW.trod_string he hf
        have h1 : cs[i]? = some (.string s) := by
          have := congrArg (·[0]?) hc
          simpa [List.getElem?_take, List.getElem?_drop] using this
        have h2 : (xs.map (·.1))[i]? = some (DataW.lit (.string s.data.toList) : DataW H) := by simp [hb]
        rw [hxs] at h2
        simp only [List.getElem?_map, Option.map_eq_some_iff, DataW.lit.injEq, Lit.string.injEq] at h2
        obtain ⟨z', hz', hzz⟩ := h2
        rw [h1, List.getElem?_map, hz']
        simp [sv, hzz]
      · rw [List.getElem?_eq_none (by omega), List.getElem?_eq_none (by simp; omega)]
    · cases h
theorem gtNames : (Tryd.prog.globals[0]?).map (·.type) = some 66 := by kernel_rfl
theorem gtSigns : (Tryd.prog.globals[1]?).map (·.type) = some 77 := by kernel_rfl
theorem uNames : Tryd.prog.underlying 66 = some (.array 5 9) := by kernel_rfl
theorem uSigns : Tryd.prog.underlying 77 = some (.array 5 5) := by kernel_rfl
theorem cNames : Tryd.prog.cellsOf 66 = 5 := by kernel_rfl
theorem cSigns : Tryd.prog.cellsOf 77 = 5 := by kernel_rfl
theorem cStr : Tryd.prog.cellsOf 9 = 1 := by kernel_rfl
theorem cU8 : Tryd.prog.cellsOf 5 = 1 := by kernel_rfl
def laidL : List (String × DataW Unit) := [("math/bits.deBruijn32tab", Rows.laid_math_bits_deBruijn32tab), ("math/bits.deBruijn64tab", Rows.laid_math_bits_deBruijn64tab), ("internal/strconv.uint64pow10", Rows.laid_internal_strconv_uint64pow10), ("tympan/show.names", Rows.laid_tympan_show_names), ("tympan/show.signs", Rows.laid_tympan_show_signs)]
theorem gtTab : (Tryd.prog.globals[2]?).map (·.type) = some 89 := by kernel_rfl
theorem uTab : Tryd.prog.underlying 89 = some (.array 20 74) := by kernel_rfl
theorem cTab : Tryd.prog.cellsOf 89 = 20 := by kernel_rfl
theorem cU64 : Tryd.prog.cellsOf 74 = 1 := by kernel_rfl
theorem env_of_laid {W : World} (h : laidMetH Tryd.prog laidL W) : Env W := by
  have h' : laidMet Tryd.prog laidL W := h
  obtain ⟨ps, ⟨_, _, _, _, _, _, _, _, _, _, ⟨_, _, _, _, _, _, _, _, _, _, ⟨g3, t3, c3, u3, p3, q3, hg3, ht3, hv3, hd3, ⟨g4, t4, c4, u4, p4, q4, hg4, ht4, hv4, hd4, ⟨g5, t5, c5, u5, p5, q5, hg5, ht5, hv5, hd5, _, _⟩, _⟩, _⟩, _⟩, _⟩, _⟩ := h'
  refine ⟨?_, ?_, ?_⟩
  · obtain rfl := Option.some.inj (gTab.symm.trans hg3)
    obtain rfl := Option.some.inj (gtTab.symm.trans ht3)
    have e := Lib.cells_of_tab (k := .u64) (zs := Lib.pow10Tab) uTab Tryd.underlying74 cU64 cTab (show DataW.trod _ _ _ _ _ _ _ _ _ = some (Lib.tabData .u64 Lib.pow10Tab, p3) from hd3)
    unfold Lib.TabIs
    rw [hv3, ← e]
  · obtain rfl := Option.some.inj (gNames.symm.trans hg4)
    obtain rfl := Option.some.inj (gtNames.symm.trans ht4)
    have e := cells_of_strs (zs := [[], [98, 111, 120], [102, 108, 111, 97, 116], [114, 117, 108, 101], [108, 105, 110, 101]]) uNames Tryd.underlying9 cStr cNames hd4
    rw [hv4]
    cases c4
    simp only at e
    rw [e]; rfl
  · obtain rfl := Option.some.inj (gSigns.symm.trans hg5)
    obtain rfl := Option.some.inj (gtSigns.symm.trans ht5)
    have e := Lib.cells_of_tab (k := .u8) (zs := [0, 35, 70, 45, 110]) uSigns Tryd.underlying5 cU8 cSigns hd5
    rw [hv5]
    cases c5
    simp only at e
    rw [e]; rfl
def setBlk (cs : Array Value) : Obj → Obj
  | .cells _ t frozen => .cells cs t frozen
  | o => o
/-- The settled world, the five variables holding what they are laid with: the witness. -/
noncomputable def laidWorld (os : Os) : World :=
  { World.holding Tryd.prog os ⟨#[], #[], []⟩ with heap := (((((World.holding Tryd.prog os ⟨#[], #[], []⟩).heap.modify 0 (setBlk namesA)).modify 1 (setBlk signsA)).modify 2 (setBlk (Lib.pow10Tab.map fun z => Value.int .u64 z).toArray)).modify 3 (setBlk #[.int .u8 0, .int .u8 1, .int .u8 28, .int .u8 2, .int .u8 29, .int .u8 14, .int .u8 24, .int .u8 3, .int .u8 30, .int .u8 22, .int .u8 20, .int .u8 15, .int .u8 25, .int .u8 17, .int .u8 4, .int .u8 8, .int .u8 31, .int .u8 27, .int .u8 13, .int .u8 23, .int .u8 21, .int .u8 19, .int .u8 16, .int .u8 7, .int .u8 26, .int .u8 12, .int .u8 18, .int .u8 6, .int .u8 11, .int .u8 5, .int .u8 10, .int .u8 9])).modify 4 (setBlk #[.int .u8 0, .int .u8 1, .int .u8 56, .int .u8 2, .int .u8 57, .int .u8 49, .int .u8 28, .int .u8 3, .int .u8 61, .int .u8 58, .int .u8 42, .int .u8 50, .int .u8 38, .int .u8 29, .int .u8 17, .int .u8 4, .int .u8 62, .int .u8 47, .int .u8 59, .int .u8 36, .int .u8 45, .int .u8 43, .int .u8 51, .int .u8 22, .int .u8 53, .int .u8 39, .int .u8 33, .int .u8 30, .int .u8 24, .int .u8 18, .int .u8 12, .int .u8 5, .int .u8 63, .int .u8 55, .int .u8 48, .int .u8 27, .int .u8 60, .int .u8 41, .int .u8 37, .int .u8 16, .int .u8 46, .int .u8 35, .int .u8 44, .int .u8 21, .int .u8 52, .int .u8 32, .int .u8 23, .int .u8 11, .int .u8 54, .int .u8 26, .int .u8 40, .int .u8 15, .int .u8 34, .int .u8 20, .int .u8 31, .int .u8 10, .int .u8 25, .int .u8 14, .int .u8 19, .int .u8 9, .int .u8 13, .int .u8 8, .int .u8 7, .int .u8 6]) }
theorem laid_met (os : Os) (args : Array Value) : laidMetH Tryd.prog laidL ((laidWorld os).forCall (fun _ _ => 0) ⟨#[], args, []⟩).memory :=
  (laidMet_of_run' 8 (by kernel_rfl) (by kernel_rfl) : laidMet Tryd.prog laidL _)
end Go.Proofs.YtfiejiokconobaaDoor
