/- The document's head, of any line (tympanref43). -/
import Derived.Test.YtaekeogaakogbaaGreatDoorK8

namespace Go.Proofs.YtaekeogaakogbaaGreatDoor

open Go.ChangeShapes Go.WideShapes Go.ChangeAt Go.RowKit Go.Shelf

theorem head43_any (j : JobD) (hg : j.g.length = 18) (iv nv fv : Value) (hi1 : iv.oneCell' = true) (hn1 : nv.oneCell' = true) (hf1 : fv.oneCell' = true) (last : Int) (ok : Bool) (k : Nat) (hk : k ≤ 18) (B : Nat) (a : Option Addr) (c : Nat) (ns : List Int) (w : World) (hr : Row w B 2 1 enc1 (.slice a ns.length c) ns) :
    Calls Tryz.prog 28 #[.agg (stepL (jobL j.g j.bal iv nv fv) last ok).toArray, .int .i64 (k : Int), .slice a ns.length c] w (HeadEnd j iv nv fv last k ns w) := by
  have hJ := jobL_len (b := j.bal) (iv := iv) (nv := nv) (fv := fv) hg
  have h1 := jobL_one (g := j.g) (b := j.bal) hi1 hn1 hf1
  have bad : ∀ (_ : (k : Int) ≤ last ∨ (k < 18 ∧ ns.length ≠ 1) ∨ (k = 18 ∧ ns.length ≠ 0)) (_ : headD j last k ns = none), Calls Tryz.prog 28 #[.agg (stepL (jobL j.g j.bal iv nv fv) last ok).toArray, .int .i64 (k : Int), .slice a ns.length c] w (HeadEnd j iv nv fv last k ns w) := fun hb hd => by
    refine (head43_bad _ last (stepL_22 hJ last ok) k a ns.length c hb hk w).mono ?_
    rintro e w' ⟨he, hk'⟩
    exact ⟨hk', by rw [hd]; exact he⟩
  by_cases hle : (k : Int) ≤ last
  · exact bad (.inl hle) (by unfold headD; rw [if_pos hle])
  · by_cases h18 : k = 18
    · subst h18
      rcases hns : ns with _ | ⟨x, r⟩
      · refine (head43_bal _ hJ h1 j.bal ?_ last (by omega) ok a c w).mono ?_
        · unfold jobL
          rw [List.getElem?_append_right (by rw [intsG_len, hg]; exact Nat.le_refl _), intsG_len, hg]; rfl
        · rintro e w' ⟨he, hk'⟩
          refine ⟨hk', ?_⟩
          unfold headD
          rw [if_neg hle, if_pos rfl, if_pos rfl]
          rw [jobL_bal hg] at he
          exact he
      · rw [← hns]
        exact bad (.inr (.inr ⟨rfl, by rw [hns]; simp⟩)) (by unfold headD; rw [if_neg hle, if_pos rfl, if_neg (by rw [hns]; simp)])
    · have hk8 : k < 18 := by omega
      by_cases hl1 : ns.length = 1
      · obtain ⟨n, rfl⟩ := List.length_eq_one_iff.1 hl1
        by_cases hn : n = 0
        · subst hn
          refine (head43_zero _ last (stepL_22 hJ last ok) k hk8 (by omega) B a c w hr).mono ?_
          rintro e w' ⟨he, hk'⟩
          refine ⟨hk', ?_⟩
          unfold headD
          rw [if_neg hle, if_neg h18]
          exact he
        · refine (head43_set _ hJ h1 last ok k hk8 (by omega) n hn B a c w hr).mono ?_
          rintro e w' ⟨he, hk'⟩
          refine ⟨hk', ?_⟩
          unfold headD
          rw [if_neg hle, if_neg h18]
          simp only [if_neg hn]
          rw [jobL_set (by omega)] at he
          exact he
      · refine bad (.inr (.inl ⟨hk8, hl1⟩)) ?_
        unfold headD
        rw [if_neg hle, if_neg h18]
        rcases ns with _ | ⟨x, _ | ⟨y, r⟩⟩
        · rfl
        · exact absurd rfl hl1
        · rfl
/-- The document's place and the program's: a head's line. -/
theorem headD_J {j : JobD} {next : Nat} {wd : List UInt8} {k : Nat} {ns : List Int} (hp : plN wd = some k) (hk : k < 19) : headJ j next wd ns = (headD j ((next : Int) - 1) k ns).map fun j' => (j', k + 1) := by
  by_cases h18 : k = 18
  · subst h18
    obtain ⟨hg, hw⟩ := plN_hi hp (Nat.le_refl _)
    have hwb : wd = wBal := by simpa [gw8] using hw.symm
    unfold headJ headD
    rw [if_pos hwb]
    by_cases hn : next ≤ 18
    · have e1 : ¬ (((18 : Nat) : Int) ≤ (next : Int) - 1) := by omega
      by_cases hs : ns = []
      · rw [if_pos (⟨hn, hs⟩ : next ≤ 18 ∧ ns = []), if_neg e1, if_pos rfl, if_pos hs]; rfl
      · rw [if_neg (fun h : next ≤ 18 ∧ ns = [] => hs h.2), if_neg e1, if_pos rfl, if_neg hs]; rfl
    · have e1 : (((18 : Nat) : Int) ≤ (next : Int) - 1) := by omega
      rw [if_neg (fun h : next ≤ 18 ∧ ns = [] => hn h.1), if_pos e1]; rfl
  · have hg := plN_lo hp (by omega)
    have hwb : wd ≠ wBal := fun e => by
      have : gi wBal = none := by decide
      rw [e, this] at hg
      cases hg
    unfold headJ headD
    rw [if_neg hwb, hg]
    simp only
    by_cases hn : k < next
    · rw [if_pos hn, if_pos (by omega)]; rfl
    · rw [if_neg hn, if_neg (by omega), if_neg h18]
      rcases ns with _ | ⟨x, _ | ⟨y, r⟩⟩
      · rfl
      · by_cases hx : x = 0
        · simp [hx]
        · simp [hx]
      · rfl
end Go.Proofs.YtaekeogaakogbaaGreatDoor
