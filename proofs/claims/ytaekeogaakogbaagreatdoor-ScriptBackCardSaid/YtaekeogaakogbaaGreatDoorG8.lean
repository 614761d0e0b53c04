/- The document's lines: words. -/
import Derived.Test.YtaekeogaakogbaaGreatDoorG4

namespace Go.Proofs.YtaekeogaakogbaaGreatDoor

open Go.ChangeShapes Go.WideShapes Go.ChangeAt Go.RowKit Go.Shelf

theorem splitW_blank : ∀ l : List UInt8, splitW (l ++ [32]) = splitW l ++ [[]]
  | [] => by simp [splitW]
  | c :: r => by
    have ih := splitW_blank r
    rw [List.cons_append]
    conv => lhs; unfold splitW
    conv => rhs; unfold splitW
    by_cases h : c = 32
    · rw [if_pos h, if_pos h, ih]; rfl
    · rw [if_neg h, if_neg h, ih]
      obtain ⟨w, ws, e⟩ := List.exists_cons_of_ne_nil (splitW_ne r)
      rw [e]; rfl
theorem splitW_more (x : UInt8) (hx : x ≠ 32) : ∀ (l : List UInt8) {out : List (List UInt8)} {w : List UInt8}, splitW l = out ++ [w] → splitW (l ++ [x]) = out ++ [w ++ [x]]
  | [], out, w, h => by
    have hl : ([[]] : List (List UInt8)) = out ++ [w] := by simpa [splitW] using h
    obtain _ | ⟨o, out⟩ := out
    · simp at hl; subst hl; simp [splitW, hx]
    · have := congrArg List.length hl; simp at this
  | c :: r, out, w, h => by
    rw [List.cons_append]
    unfold splitW at h ⊢
    by_cases hc : c = 32
    · rw [if_pos hc] at h ⊢
      obtain _ | ⟨o, out⟩ := out
      · rw [List.nil_append] at h
        exact absurd (congrArg List.length h) (by have := List.length_pos_iff.2 (splitW_ne r); rw [List.length_cons, List.length_singleton]; omega)
      · rw [List.cons_append, List.cons.injEq] at h
        rw [splitW_more x hx r h.2, ← h.1]; rfl
    · rw [if_neg hc] at h ⊢
      obtain ⟨w1, ws, e⟩ := List.exists_cons_of_ne_nil (splitW_ne r)
      rw [e] at h
      simp only at h
      obtain _ | ⟨o, out⟩ := out
      · rw [List.nil_append, List.cons.injEq] at h
        obtain ⟨rfl, rfl⟩ := h
        rw [splitW_more x hx r (out := []) (w := w1) (by rw [e]; rfl)]
        rfl
      · rw [List.cons_append, List.cons.injEq] at h
        obtain ⟨rfl, rfl⟩ := h
        rw [splitW_more x hx r (out := w1 :: out) (w := w) (by rw [e]; rfl)]
        rfl
theorem infoStr : (Tryz.prog.info? 9).map (fun i => (i.zero, i.size, i.bytes)) = some (some (.string ByteArray.empty), 1, 16) := by kernel_rfl
theorem extract_sv (s : List UInt8) (a b : Nat) : (⟨s.toArray⟩ : ByteArray).extract a b = ⟨((s.take b).drop a).toArray⟩ := by
  apply ByteArray.ext
  rw [← Array.toArray_toList (xs := ((⟨s.toArray⟩ : ByteArray).extract a b).data), Lib.extract_data]
  simp [List.drop_take]
set_option maxRecDepth 100000 in
set_option maxHeartbeats 8000000 in
theorem words_any (s : List UInt8) (hs : s.length ≤ 10000) (w : World) :
    Calls Tryz.prog 66 #[sv s] w fun e w' => ∃ v, e = .returned v ∧ Row w' w.heap.size 9 1 encS v (splitW s) ∧ Kp w w' := by
  go_enter Tryz.func66, Tryz.ntmps66
  go_wp2_with fail
  go_loopw [3, 4, 5] (fun v3 v4 v5 wr => ∃ (i fr : Nat) (out : List (List UInt8)), i ≤ s.length ∧ v5 = .int .i64 (i : Int) ∧ v4 = .int .i64 (fr : Int) ∧ fr ≤ i ∧ splitW (s.take i) = out ++ [(s.take i).drop fr] ∧ Row wr w.heap.size 9 1 encS v3 out ∧ Kp w wr) (fun _ _ v5 _ => s.length - (intOf v5).toNat)
  case atStart => exact ⟨0, 0, [], Nat.zero_le _, rfl, rfl, Nat.le_refl _, rfl, Row.nil _ _ _ _ _, (by (repeat (first | with_reducible assumption | with_reducible exact Kp.refl _ | with_reducible refine Kp.drew ?_ | with_reducible refine Kp.drewN ?_ _ | with_reducible refine Kp.alloc ?_ _ | ((with_reducible refine Kp.setCell ?_ ?_ _); rotate_left; (focus (first | omega | (simp; done) | (simp; omega)))) | with_reducible refine Kp.trans ?_ (by assumption))))⟩
  case round =>
    obtain ⟨i, fr, out, hi, rfl, rfl, hfr, hsp, xr, xk⟩ := hrel
    have hol := congrArg List.length hsp
    have hwl := splitW_len (s.take i)
    rw [List.length_append, List.length_singleton] at hol
    have htl : (s.take i).length ≤ s.length := by rw [List.length_take]; omega
    by_cases hlt : i < s.length
    · obtain ⟨c, hc⟩ : ∃ c, s[i]? = some c := ⟨s[i], List.getElem?_eq_getElem hlt⟩
      have ht : s.take (i + 1) = s.take i ++ [c] := by rw [List.take_add_one, hc]; rfl
      have ji : decide ((i : Int) < (s.length : Int)) = true := decide_eq_true (by omega)
      have hsz : (⟨s.toArray⟩ : ByteArray).size = s.length := size_sv s
      have hcg : (⟨s.toArray⟩ : ByteArray)[i]'(by rw [hsz]; exact hlt) = c := (List.getElem?_eq_some_iff.1 hc).2
      obtain ⟨v3, c3, rfl, _⟩ := xr.sl (fun _ => rfl)
      by_cases h32 : c = 32
      · have e32 : ((c.toNat : Int) == 32) = true := by subst h32; rfl
        obtain ⟨X, hX⟩ : ∃ X, (s.take i).drop fr = X := ⟨_, rfl⟩
        have hex : (⟨s.toArray⟩ : ByteArray).extract fr i = ⟨X.toArray⟩ := by rw [extract_sv, hX]
        rw [hX] at hsp
        have HN : Hid (splitW (s.take (i + 1)) = (out ++ [X]) ++ [(s.take (i + 1)).drop (i + 1)]) := Lib.hid (by
          rw [ht, h32, splitW_blank, hsp]
          congr 1
          rw [List.drop_of_length_le (by rw [List.length_append, List.length_take, List.length_singleton]; omega)])
        clear ht hsp hX hc h32
        go_wp2_with (at_builtin; go_loud (refine rowAppend ?gd (.tmp 16) (.tmp 21) 70 ?ho Tryz.underlying70 infoStr rfl (by decide) (xr.alloc (.cells #[sv X] 9)) ?hs (y := X) rfl ?h1 (Blk.new _ _ 9) ?hx ?hl ?hb ?hz ?_; (case gd => rfl); (case ho => rfl); (case hs => rfl); (case h1 => simp [encS, Value.oneCell']); (case hx => rfl); (case hl => unfold maxLen; omega); (case hb => omega); (case hz => exact Nat.le_trans xk.size (by simp)); intro v' w5 hr5 kp5 oth5 sz5 hne5))
        have k5 := kp5 (Nat.le_refl _) (xk.alloc (.cells #[sv X] 9))
        go_wp2_with fail
        go_roundw
        case rel => exact ⟨i + 1, i + 1, out ++ [X], by omega, by go_num, by go_num, Nat.le_refl _, HN.out, hr5, k5⟩
        case measure => simp [intOf]; omega
      · have e32 : ((c.toNat : Int) == 32) = false := beq_eq_false_iff_ne.2 (fun e => h32 (UInt8.toNat_inj.1 (by have : (32 : UInt8).toNat = 32 := rfl; omega)))
        have HN : Hid (splitW (s.take (i + 1)) = out ++ [(s.take (i + 1)).drop fr]) := Lib.hid (by
          rw [ht, splitW_more c h32 _ hsp, List.drop_append_of_le_length (by rw [List.length_take]; omega)])
        clear ht hsp hc h32
        go_wp2_with fail
        go_roundw
        case rel => exact ⟨i + 1, fr, out, by omega, by go_num, rfl, by omega, HN.out, xr, xk⟩
        case measure => simp [intOf]; omega
    · obtain rfl : i = s.length := by omega
      have ji : decide ((s.length : Int) < (s.length : Int)) = false := decide_eq_false (by omega)
      have hsz : (⟨s.toArray⟩ : ByteArray).size = s.length := size_sv s
      obtain ⟨v3, c3, rfl, _⟩ := xr.sl (fun _ => rfl)
      obtain ⟨X, hX⟩ : ∃ X, (s.take s.length).drop fr = X := ⟨_, rfl⟩
      have hex : (⟨s.toArray⟩ : ByteArray).extract fr s.length = ⟨X.toArray⟩ := by rw [extract_sv, hX]
      rw [hX, List.take_length] at hsp
      have HSP := Lib.hid hsp
      clear hsp hX
      go_wp2_with (at_builtin; go_loud (refine rowAppend ?gd (.tmp 25) (.tmp 29) 70 ?ho Tryz.underlying70 infoStr rfl (by decide) (xr.alloc (.cells #[sv X] 9)) ?hs (y := X) rfl ?h1 (Blk.new _ _ 9) ?hx ?hl ?hb ?hz ?_; (case gd => rfl); (case ho => rfl); (case hs => rfl); (case h1 => simp [encS, Value.oneCell']); (case hx => rfl); (case hl => unfold maxLen; omega); (case hb => omega); (case hz => exact Nat.le_trans xk.size (by simp)); intro v' w5 hr5 kp5 oth5 sz5 hne5))
      have k5 := kp5 (Nat.le_refl _) (xk.alloc (.cells #[sv X] 9))
      go_wp2_with fail
      (try go_ret)
      exact ⟨_, rfl, by rw [HSP.out]; exact hr5, k5⟩
end Go.Proofs.YtaekeogaakogbaaGreatDoor
