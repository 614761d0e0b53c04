/- A script's Read, of any text. -/
import Derived.Test.YtaekeogaakogbaaGreatDoorJ13

import Derived.Test.YtaekeogaakogbaaGreatDoorRw

namespace Go.Proofs.YtaekeogaakogbaaGreatDoor

open Go.ChangeShapes Go.WideShapes Go.ChangeAt Go.RowKit Go.Shelf

theorem cut_run (s : List UInt8) (hs : s.length ≤ 1000000000) (w : World) (he : Env w) :
    Calls Tryz.prog 11 #[sv s, .string ⟨#[10]⟩] w fun e w' => e = .returned (.tuple #[sv (Lib.cut s [10]).1, sv (Lib.cut s [10]).2.1, .bool (Lib.cut s [10]).2.2]) ∧ Kp w w' := by
  obtain ⟨m, t, f, hh⟩ := he.maxl
  refine (Tryz.strings_Cut ⟨s.toArray⟩ ⟨#[10]⟩ m w (by rw [size_sv]; omega) (by simp [World.cell?, hh])).mono ?_
  rintro e w' ⟨rfl, n, rfl⟩
  exact ⟨rfl, (by (repeat (first | with_reducible assumption | with_reducible exact Kp.refl _ | with_reducible refine Kp.drew ?_ | with_reducible refine Kp.drewN ?_ _ | with_reducible refine Kp.alloc ?_ _ | ((with_reducible refine Kp.setCell ?_ ?_ _); rotate_left; (focus (first | omega | (simp; done) | (simp; omega)))) | with_reducible refine Kp.trans ?_ (by assumption))))⟩
/-- A job's cells. -/
def jobL (g : List Int) (b : Bool) (iv nv fv : Value) : List Value := intsG g ++ [.bool b, iv, nv, fv]
theorem jobL_len {g : List Int} {b : Bool} {iv nv fv : Value} (hg : g.length = 18) : (jobL g b iv nv fv).length = 22 := by unfold jobL; rw [List.length_append, intsG_len, hg]; rfl
/-- The cells of no job. -/
def jobZ : List Value := jobL job0.g false (.slice none 0 0) (.slice none 0 0) (.slice none 0 0)
theorem jobZ_len : jobZ.length = 22 := rfl
/-- A job, as a value. -/
def jobV (j : JobD) (iv nv fv : Value) : Value := .agg (jobL j.g j.bal iv nv fv).toArray
theorem rowJob : RowT 30 22 := ⟨⟨_, Tryz.underlying30, rfl⟩, by kernel_rfl⟩
theorem notJt_job : ¬ Jt 30 := by unfold Jt; decide
theorem jobL_one {g : List Int} {b : Bool} {iv nv fv : Value} (h1 : iv.oneCell' = true) (h2 : nv.oneCell' = true) (h3 : fv.oneCell' = true) : ∀ v ∈ jobL g b iv nv fv, v.oneCell' = true := fun v hv => by
  unfold jobL intsG at hv
  rcases List.mem_append.1 hv with hv | hv
  · obtain ⟨x, _, rfl⟩ := List.mem_map.1 hv
    rfl
  · simp only [List.mem_cons, List.not_mem_nil, or_false] at hv
    rcases hv with rfl | rfl | rfl | rfl
    · rfl
    · exact h1
    · exact h2
    · exact h3
theorem jobZ_one : ∀ v ∈ jobZ, v.oneCell' = true := jobL_one rfl rfl rfl
/-- The reader's job, in its block. -/
theorem rdr_job {w : World} {R : Nat} {g : List Int} {b : Bool} {iv nv fv : Value} {n : Int} {t : TypeId} (h : Blk w R (rdr g b iv nv fv n) t) : w.rangeAt R 0 (jobL g b iv nv fv) := fun j v hv => by
  rw [Nat.zero_add]
  refine h.cell j ?_
  have e : rdr g b iv nv fv n = jobL g b iv nv fv ++ [.int .i64 n] := by unfold rdr jobL; simp
  rw [e, List.getElem?_append_left (List.getElem?_eq_some_iff.1 hv).1]
  exact hv
theorem row_one {α : Type} {w : World} {base n : Nat} {e : TypeId} {enc : α → List Value} {v : Value} {l : List α} (h : Row w base e n enc v l) : v.oneCell' = true := by
  rcases h.2 with ⟨rfl, _⟩ | ⟨g, cap, cur, rfl, _⟩
  · rfl
  · rfl
theorem typedJ_others {w w' : World} {O : Nat} {cs : List Value} {t : TypeId} (hO : Blk w O cs t) (ht : ¬ Jt t) (hoth : ∀ {b' : Nat} {cs : List Value} {t' : TypeId}, b' ≠ O → Blk w b' cs t' → Blk w' b' cs t') (hz : w'.heap.size = w.heap.size) : TypedJ w w' :=
  ⟨Nat.le_of_eq hz.symm, fun b ds t' hc ht' => by
    have hne : b ≠ O := fun e => by
      rw [e, hO.heap] at hc
      cases hc
      exact ht ht'
    have := hoth hne (show Blk w b ds.toList t' from ⟨by simpa using hc⟩)
    rw [hc]
    simpa using this.heap⟩
/-- What is read of a text. -/
def ScriptEnd (s : List UInt8) (W : World) (e : Ending) (w' : World) : Prop := Kp W w' ∧ ∃ N, (∀ j, j < N → Good s j) ∧ ¬ Good s N ∧
  ((restK s N = [] ∧ ∃ j next iv nv fv, stK s N = some (j, next) ∧ e = .returned (.tuple #[jobV j iv nv fv, .int .i64 0]) ∧ JRep w' W.heap.size iv nv fv j) ∨
   (restK s N ≠ [] ∧ e = .returned (.tuple #[jobV job0 (.slice none 0 0) (.slice none 0 0) (.slice none 0 0), .int .i64 ((N : Int) + 1)])))
set_option maxRecDepth 100000 in
set_option maxHeartbeats 8000000 in
theorem scriptRead_any (s : List UInt8) (W : World) (he : Env W) (hs : s.length ≤ 1000000000) (hL : ∀ k, (lineK s k).length ≤ 10000) (hN : ∀ N, (∀ j, j < N → Good s j) → N ≤ 90000) :
    Calls Tryz.prog 6 #[sv s] W (ScriptEnd s W) := by
  have HE := Lib.hid he
  have HL := Lib.hid hL
  have HN := Lib.hid hN
  clear he hL hN
  go_enter Tryz.func6, Tryz.ntmps6
  go_wp2_with fail
  go_loopw [0, 5] (fun v0 v5 wr => ∃ (k : Nat) (j : JobD) (next : Nat), v0 = sv (restK s k) ∧ v5 = .int .i64 (k : Int) ∧ (∀ j, j < k → Good s j) ∧ stK s k = some (j, next) ∧ Blk wr W.heap.size jobZ 30 ∧ Rdr wr (W.heap.size + 1) W.heap.size j next ∧ Kp W wr) (fun _ v5 _ => 100000 - (intOf v5).toNat)
  case atStart =>
    refine ⟨0, job0, 0, rfl, rfl, fun j hj => by omega, rfl, ?_, ⟨.slice none 0 0, .slice none 0 0, .slice none 0 0, ?_, jrep0 _ _⟩, (by (repeat (first | with_reducible assumption | with_reducible exact Kp.refl _ | with_reducible refine Kp.drew ?_ | with_reducible refine Kp.drewN ?_ _ | with_reducible refine Kp.alloc ?_ _ | ((with_reducible refine Kp.setCell ?_ ?_ _); rotate_left; (focus (first | omega | (simp; done) | (simp; omega)))) | with_reducible refine Kp.trans ?_ (by assumption))))⟩
    · show Blk _ W.heap.size [.int .i64 0, .int .i64 0, .int .i64 0, .int .i64 0, .int .i64 0, .int .i64 0, .int .i64 0, .int .i64 0, .int .i64 0, .int .i64 0, .int .i64 0, .int .i64 0, .int .i64 0, .int .i64 0, .int .i64 0, .int .i64 0, .int .i64 0, .int .i64 0, .bool false, .slice none 0 0, .slice none 0 0, .slice none 0 0] 30
      (repeat (first | with_reducible assumption | ((with_reducible refine Blk.newL ?_ ?_); (focus (first | (simp; done) | omega)); rfl) | with_reducible refine Blk.drew ?_ | with_reducible refine Blk.drewN ?_ _ | with_reducible refine Blk.alloc ?_ _ | ((with_reducible refine Blk.other ?_ ?_ _); rotate_left; (focus (first | with_reducible assumption | omega | (simp; done) | (simp; omega))))))
    · show Blk _ (W.heap.size + 1) [.int .i64 0, .int .i64 0, .int .i64 0, .int .i64 0, .int .i64 0, .int .i64 0, .int .i64 0, .int .i64 0, .int .i64 0, .int .i64 0, .int .i64 0, .int .i64 0, .int .i64 0, .int .i64 0, .int .i64 0, .int .i64 0, .int .i64 0, .int .i64 0, .bool false, .slice none 0 0, .slice none 0 0, .slice none 0 0, .int .i64 0] 50
      (repeat (first | with_reducible assumption | ((with_reducible refine Blk.newL ?_ ?_); (focus (first | (simp; done) | omega)); rfl) | with_reducible refine Blk.drew ?_ | with_reducible refine Blk.drewN ?_ _ | with_reducible refine Blk.alloc ?_ _ | ((with_reducible refine Blk.other ?_ ?_ _); rotate_left; (focus (first | with_reducible assumption | omega | (simp; done) | (simp; omega))))))
  case round =>
    obtain ⟨k, j, next, rfl, rfl, hg, hst, xo, xR, xk⟩ := hrel
    have hk := HN.out k hg
    obtain ⟨hjok, hjf, hnx⟩ := stK_ok (by omega) hst
    obtain ⟨S, hS⟩ : ∃ S, restK s k = S := ⟨_, rfl⟩
    have hrl := rest_le s k
    rw [hS] at hrl
    have HG := Lib.hid hg
    have HS := Lib.hid hS
    have HST := Lib.hid hst
    have xol := xo.lt
    have xRl := xR.lt
    by_cases hr : S = []
    · subst hr
      obtain ⟨iv, nv, fv, hB, hJ⟩ := xR
      have HB : Hid (¬ Good s k) := Lib.hid fun h => h.1 HS.out
      have HJ := Lib.hid hJ
      have hrg := rdr_job hB
      have h1 := row_one hJ.items
      obtain ⟨F, nts, hnt, _⟩ := hJ.notes
      have h2 := row_one hnt
      have h3 := row_one hJ.floats
      have HRG := Lib.hid hrg
      obtain ⟨L, hLL⟩ : ∃ L, jobL j.g j.bal iv nv fv = L := ⟨_, rfl⟩
      have hl22 : L.length = 22 := by rw [← hLL]; exact jobL_len hjok.len
      have hone : ∀ v ∈ L, v.oneCell' = true := by rw [← hLL]; exact jobL_one h1 h2 h3
      have HLL := Lib.hid hLL
      rw [hLL] at HRG
      rw [HS.out]
      clear hB hJ hS hg hst hjok hjf hrg h1 h2 h3 hnt hLL
      go_wp2_with (first
        | (refine ldRowAt rowJob rfl (.tmp 34) rfl HRG.out hl22 rfl ?_)
        | (refine stRowW rowJob rfl (.tmp 2) (.tmp 35) rfl xo jobZ_len hl22 hone rfl rfl ?_; intro w5 hb5 hoth5 hkp5 hsz5))
      refine bodyPost_ret (ret_cellRow2 rowJob Tryz.results6 hl22 rfl hb5 rfl) rfl ?_
      refine ⟨hkp5 (Nat.le_refl _) xk, k, HG.out, HB.out, .inl ⟨HS.out, j, next, iv, nv, fv, HST.out, ?_, HJ.out.move (typedJ_others xo notJt_job hoth5 hsz5)⟩⟩
      unfold jobV
      rw [HLL.out]
      rfl
    · have jr : (S == []) = false := beq_eq_false_iff_ne.2 hr
      have CC := Lib.hid (cut_run S (by omega) wr (HE.out.kp xk))
      have hline : (Lib.cut S [10]).1 = lineK s k := by unfold lineK; rw [hS]
      have hrest : (Lib.cut S [10]).2.1 = restK s (k + 1) := by show _ = (Lib.cut (restK s k) [10]).2.1; rw [hS]
      obtain ⟨ok, hok⟩ : ∃ ok, (Lib.cut S [10]).2.2 = ok := ⟨_, rfl⟩
      rw [hline, hrest, hok] at CC
      have hll := HL.out k
      obtain ⟨Ln, hLn⟩ : ∃ Ln, lineK s k = Ln := ⟨_, rfl⟩
      obtain ⟨Rs, hRs⟩ : ∃ Rs, restK s (k + 1) = Rs := ⟨_, rfl⟩
      rw [hLn, hRs] at CC
      rw [hLn] at hll
      have hst1 : stK s (k + 1) = takeJ (j, next) Ln := by
        show (stK s k).bind (fun st => takeJ st (lineK s k)) = _
        rw [hst, hLn]; rfl
      have HGood : Hid (Good s k ↔ ok = true ∧ (takeJ (j, next) Ln).isSome = true) := Lib.hid (by
        unfold Good
        rw [hst1, hS, hok]
        exact ⟨fun h => h.2, fun h => ⟨hr, h⟩⟩)
      have HST1 := Lib.hid hst1
      have HRs := Lib.hid hRs
      have HR := Lib.hid xR
      have HNE : Hid (restK s k ≠ []) := Lib.hid (by rw [hS]; exact hr)
      rw [hS]
      clear hline hrest hok hLn hRs hst1 xR hS hg hst hr
      go_wp2_with fail
      refine CC.out.mono ?_
      rintro e w2 ⟨rfl, k2⟩
      have xo2 := xo.kp k2
      have kw2 := xk.trans k2
      clear CC
      rcases ok with _ | _
      · have HB : Hid (¬ Good s k) := Lib.hid fun h => by cases (HGood.out.1 h).1
        go_wp2_with (first
          | (refine stRowW (vs := jobZ) rowJob rfl (.tmp 2) (.tmp 29) rfl xo2 jobZ_len jobZ_len jobZ_one rfl rfl ?_; intro w5 hb5 hoth5 hkp5 hsz5))
        refine bodyPost_ret (ret_cellRow2 rowJob Tryz.results6 jobZ_len rfl hb5 rfl) rfl ?_
        exact ⟨hkp5 (Nat.le_refl _) kw2, k, HG.out, HB.out, .inr ⟨HNE.out, rfl⟩⟩
      · have CT := Lib.hid (takeS_any W (W.heap.size + 1) j next Ln hll w2 (HE.out.kp kw2) kw2 (Nat.le_succ _) (HR.out.kp k2) hjok ⟨by have := hjf.1; omega, by have := hjf.2.1; omega, by have := hjf.2.2; omega⟩ hnx)
        obtain ⟨rs, hrs⟩ : ∃ rs, takeJ (j, next) Ln = rs := ⟨_, rfl⟩
        rw [hrs] at CT HGood HST1
        clear hrs
        go_wp2_with fail
        refine CT.out.mono ?_
        rintro e w3 ⟨hK, hl3, hh⟩
        have xo3 := hK.blk xo2 notJt_job (by omega)
        have kw3 := hK.1
        rcases rs with _ | ⟨j', n'⟩
        · simp only at hh
          subst hh
          have HB : Hid (¬ Good s k) := Lib.hid fun h => by cases (HGood.out.1 h).2
          clear CT
          go_wp2_with (first
            | (refine stRowW (vs := jobZ) rowJob rfl (.tmp 2) (.tmp 29) rfl xo3 jobZ_len jobZ_len jobZ_one rfl rfl ?_; intro w5 hb5 hoth5 hkp5 hsz5))
          refine bodyPost_ret (ret_cellRow2 rowJob Tryz.results6 jobZ_len rfl hb5 rfl) rfl ?_
          exact ⟨hkp5 (Nat.le_refl _) kw3, k, HG.out, HB.out, .inr ⟨HNE.out, rfl⟩⟩
        · simp only at hh
          obtain ⟨rfl, hR'⟩ := hh
          have HR' := Lib.hid hR'
          have HGk : Hid (Good s k) := Lib.hid (HGood.out.2 (by simp))
          clear CT hR'
          go_wp2_with fail
          go_roundw
          case rel => exact ⟨k + 1, j', n', by rw [HRs.out], by go_num, fun i hi => by
            by_cases e : i = k
            · rw [e]; exact HGk.out
            · exact HG.out i (by omega), HST1.out, xo3, HR'.out, kw3⟩
          case measure => simp [intOf]; omega
end Go.Proofs.YtaekeogaakogbaaGreatDoor
