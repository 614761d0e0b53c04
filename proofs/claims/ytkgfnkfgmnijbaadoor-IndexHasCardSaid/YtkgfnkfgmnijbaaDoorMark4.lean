/- Marks: Of. -/
import Derived.Test.YtkgfnkfgmnijbaaDoorMark3

namespace Go.Proofs.YtkgfnkfgmnijbaaDoor

open Go.ChangeShapes Go.WideShapes Go.ChangeAt Go.RowKit Go.Shelf

attribute [local go_sem] Oper.semAt_some

structure Mk where
  t : Int
  f : Int
  l : Int
def encM (x : Mk) : List Value := [.int .i64 x.t, .int .i64 x.f, .int .i64 x.l]
def stM (pg : Nat → List Int) (s : List Mk × Int) (k : Nat) : List Mk × Int := (s.1 ++ [⟨s.2, (pg k).headD s.2, (pg k).getLastD s.2⟩], (pg k).getLastD s.2)
def runM {N : Nat} (pg : Nat → List Int) (pre : List (Fin N)) : List Mk × Int := pre.foldl (fun s x => stM pg s x.val) ([], -1)
theorem runM_snoc {N : Nat} (pg : Nat → List Int) (pre : List (Fin N)) (x : Fin N) : runM pg (pre ++ [x]) = stM pg (runM pg pre) x.val := by simp [runM, List.foldl_append]
theorem runM_len {N : Nat} (pg : Nat → List Int) (pre : List (Fin N)) : ∀ s : List Mk × Int, (pre.foldl (fun s x => stM pg s x.val) s).1.length = s.1.length + pre.length := by
  induction pre with
  | nil => intro s; rfl
  | cons x pre ih => intro s; rw [List.foldl_cons, ih]; simp [stM]; omega
theorem runM_length {N : Nat} (pg : Nat → List Int) (pre : List (Fin N)) : (runM pg pre).1.length = pre.length := by
  unfold runM; rw [runM_len]; simp
def lastK (pg : Nat → List Int) : Nat → Int
  | 0 => -1
  | k + 1 => (pg k).getLastD (lastK pg k)
def mkAt (pg : Nat → List Int) (k : Nat) : Mk := ⟨lastK pg k, (pg k).headD (lastK pg k), lastK pg (k + 1)⟩
theorem runM_firsts (pg : Nat → List Int) (N k : Nat) (hk : k ≤ N) : runM pg (firsts N k) = ((List.range k).map (mkAt pg), lastK pg k) := by
  induction k with
  | zero => rw [firsts_zero]; rfl
  | succ k ih =>
    rw [firsts_succ (by omega), runM_snoc, ih (by omega), List.range_succ, List.map_append]
    rfl
/-- The piece k of the columns, and its marks. -/
def chunkL (cs : List Col) (P k : Nat) : List Col := (cs.take (k * P + min P (cs.length - k * P))).drop (k * P)
theorem chunkL_length {cs : List Col} {P k : Nat} (h : k * P < cs.length) : (chunkL cs P k).length = min P (cs.length - k * P) := by
  unfold chunkL; rw [List.length_drop, List.length_take]; omega
def pgs (l : List Item) (cs : List Col) (P k : Nat) : List Int := pageL l (chunkL cs P k)
def ofL (l : List Item) (cs : List Col) (P : Nat) : List Mk := (List.range (nCh cs.length P)).map (mkAt (pgs l cs P))

/-- Page of a piece. -/
theorem pagePiece (a : Option Addr) (cap ccap : Nat) (b off : Nat) (l : List Item) (cs : List Col) (P k : Nat) (w : World) (hl : SlOk w 7 Item.cells a l.length cap l) (hc : SlOk w 6 Col.cells (some ⟨b, off, none⟩) cs.length ccap cs) (h4 : l.length ≤ 100) (h6 : cs.length ≤ 60) (hk : k * P < cs.length) :
    Calls Tryd.prog 26 #[.slice a l.length cap, chV b off cs.length P k] w fun e w' => ∃ v, e = .returned v ∧ Row w' w.heap.size 3 1 enc1 v (pgs l cs P k) ∧ Kp w w' := by
  have hlc := hc.2.1
  have hp : SlOk w 6 Col.cells (some ⟨b, off + k * P * 6, none⟩) (chunkL cs P k).length (min P (cs.length - k * P)) (chunkL cs P k) := hc.part (by omega) (by omega) (by omega) (by omega)
  have h := page_any a _ cap _ l (chunkL cs P k) w hl hp h4 (by rw [chunkL_length hk]; omega)
  rw [chunkL_length hk] at h
  exact h
theorem Kp.others {W w : World} (k : Kp W w) : KeepsOthers W w := KeepsOthers.of_grownBy k.grownBy (by intro j o e; cases e)

theorem Row.base {α : Type} {w : World} {base base' n : Nat} {e : TypeId} {enc : α → List Value} {v : Value} {l : List α} (h : Row w base e n enc v l) (hb : base' ≤ base) : Row w base' e n enc v l := by
  obtain ⟨h0, h1⟩ := h
  refine ⟨h0, h1.imp id ?_⟩
  rintro ⟨g, cap, cur, a1, a2, a3⟩
  exact ⟨g, cap, cur, a1, Nat.le_trans hb a2, a3⟩

theorem Row.setFar {α : Type} {w : World} {base n : Nat} {e : TypeId} {enc : α → List Value} {v : Value} {l : List α} (h : Row w base e n enc v l) {p : Addr} (hp : ∀ k, v.ownBlock = some k → k ≠ p.block) (u : Value) : Row (w.setCell p u) base e n enc v l := by
  refine ⟨h.1, ?_⟩
  rcases h.2 with hh | ⟨g, cap, cur, rfl, hb, hg, rest⟩
  · exact .inl hh
  · exact .inr ⟨g, cap, cur, rfl, hb, (Below.heap_setCell _ _ _ _ (hp g rfl)).trans hg, rest⟩

end Go.Proofs.YtkgfnkfgmnijbaaDoor
