/- Part of the proof: Any job as a text (script.Write). Any job as a text: the walk (script.Write). Plain: a job's text is read back. Plain: a job's text is read back, the items. Plain: what is read of a text has just this text. Texts are written and read at all (tympanlaw43.awake). The law ScriptReads: the job of any text, or the first line that cannot stand there. -/
import Derived.Test.YtaekeogaakogbaaGreatDoorY2
import Derived.Test.YtaekeogaakogbaaGreatDoorY1
namespace Go.Proofs.YtaekeogaakogbaaGreatDoor

open Go.ChangeShapes Go.WideShapes Go.ChangeAt Go.RowKit Go.Shelf

def headN (g : List Int) : Nat → List UInt8
  | 0 => []
  | i + 1 => headN g i ++ (if g.getD i 0 = 0 then [] else lineL (gwAt i) [g.getD i 0] ++ [10])
def kindW : List (List UInt8) := [kBox, kGlue, kPen, kMark, kNote, kFloat, kBar]
def itemT (j : JobD) (y : Itm) : List UInt8 := lineL (kindW.getD (y.k - 1).toNat []) (numsJ j y) ++ [10]
def itemsN (j : JobD) : Nat → List UInt8
  | 0 => []
  | i + 1 => itemsN j i ++ (match j.items[i]? with | some y => itemT j y | none => [])
def balT (b : Bool) : List UInt8 := if b = true then lineL wBal [] ++ [10] else []
/-- A job's text. -/
def writeJ (j : JobD) : List UInt8 := headN j.g 18 ++ (balT j.bal ++ itemsN j j.items.length)
theorem ancI_at {K : Int} {l : List Itm} : ∀ {i m : Nat}, ancI K l i = some m → ∀ {k : Nat} {y : Itm}, k < i → l[k]? = some y → y.k = K → ∃ c : Nat, y.n = (c : Int) ∧ c < m
  | 0, _, _, k, _, hk, _, _ => by omega
  | i + 1, m, h, k, y, hk, hy, hK => by
    unfold ancI at h
    rw [Option.bind_eq_some_iff] at h
    obtain ⟨c, h1, h2⟩ := h
    by_cases e : k = i
    · subst e
      rw [hy] at h2
      simp only [if_pos hK] at h2
      split at h2
      · rename_i hn
        cases h2
        exact ⟨c, hn, by omega⟩
      · cases h2
    · obtain ⟨c', hc, hlt⟩ := ancI_at h1 (k := k) (by omega) hy hK
      refine ⟨c', hc, Nat.lt_of_lt_of_le hlt ?_⟩
      split at h2
      · cases h2; exact Nat.le_refl _
      · split at h2
        · split at h2
          · cases h2; omega
          · cases h2
        · cases h2; exact Nat.le_refl _
theorem bareI_k {y : Itm} (h : bareI y = true) : 1 ≤ y.k ∧ y.k ≤ 7 := by
  unfold bareI at h
  repeat' split at h
  all_goals (first | omega | (cases h; done))
theorem lineL_len1 (wd : List UInt8) (ns : List Int) (h : ∀ x, x ∈ ns → I64 x) : (lineL wd ns ++ [10]).length ≤ wd.length + 22 * ns.length + 1 := by
  have := lineL_short (wd := wd) h
  rw [List.length_append, List.length_singleton]; omega
theorem gwAt_len {i : Nat} (hi : i < 18) : (gwAt i).length ≤ 20 := by
  rcases cases18 hi with rfl | rfl | rfl | rfl | rfl | rfl | rfl | rfl | rfl | rfl | rfl | rfl | rfl | rfl | rfl | rfl | rfl | rfl <;> decide
theorem headN_len (g : List Int) (h : ∀ n, n ∈ g → I64 n) : ∀ i, i ≤ 18 → (headN g i).length ≤ i * 50
  | 0, _ => Nat.zero_le _
  | i + 1, hi => by
    have ih := headN_len g h i (by omega)
    unfold headN
    split
    · rw [List.append_nil]; omega
    · have h1 := gwAt_len (i := i) (by omega)
      have hm : I64 (g.getD i 0) := by
        rw [List.getD_eq_getElem?_getD]
        rcases hg : g[i]? with _ | x
        · show I64 0; unfold I64; decide
        · exact h x (List.mem_of_getElem? hg)
      have := lineL_len1 (gwAt i) [g.getD i 0] (fun x hx => by rw [List.mem_singleton] at hx; rw [hx]; exact hm)
      rw [List.length_append]
      simp only [List.length_singleton] at this
      omega
theorem kindW_len (i : Nat) : (kindW.getD i []).length ≤ 10 := by
  rcases i with _ | _ | _ | _ | _ | _ | _ | i
  all_goals (first | decide | (unfold kindW; simp))
/-- The numbers of an item's line: not too many, and numbers. -/
def NumsOk (j : JobD) : Prop := ∀ y, y ∈ j.items → (numsJ j y).length ≤ 20000 ∧ ∀ n, n ∈ numsJ j y → I64 n
theorem itemT_len {j : JobD} (h : NumsOk j) {y : Itm} (hy : y ∈ j.items) : (itemT j y).length ≤ 500000 := by
  obtain ⟨h1, h2⟩ := h y hy
  have h3 := kindW_len (y.k - 1).toNat
  have := lineL_len1 (kindW.getD (y.k - 1).toNat []) (numsJ j y) h2
  unfold itemT
  omega
theorem itemsN_len {j : JobD} (h : NumsOk j) : ∀ i, (itemsN j i).length ≤ i * 500000
  | 0 => Nat.zero_le _
  | i + 1 => by
    have ih := itemsN_len h i
    have e : (i + 1) * 500000 = i * 500000 + 500000 := Nat.succ_mul _ _
    unfold itemsN
    rw [List.length_append, e]
    clear e
    split
    · rename_i y hy
      exact Nat.add_le_add ih (itemT_len h (List.mem_of_getElem? hy))
    · exact Nat.add_le_add ih (Nat.zero_le _)
theorem wvN_mem {ls ps : List Int} (h1 : ∀ n, n ∈ ls → I64 n) (h2 : ∀ n, n ∈ ps → I64 n) : ∀ (i : Nat) (n : Int), n ∈ wvN ls ps i → I64 n
  | 0, n, h => by cases h
  | i + 1, n, h => by
    have z : I64 0 := by unfold I64; decide
    have gd : ∀ (l : List Int) (k : Nat), (∀ n, n ∈ l → I64 n) → I64 (l.getD k 0) := fun l k hl => by
      rw [List.getD_eq_getElem?_getD]
      rcases hg : l[k]? with _ | x
      · exact z
      · exact hl x (List.mem_of_getElem? hg)
    unfold wvN at h
    rcases List.mem_append.1 h with h | h
    · rcases List.mem_append.1 h with h | h
      · exact wvN_mem h1 h2 i n h
      · split at h
        · cases h
        · rw [List.mem_singleton] at h; rw [h]; exact gd ps _ h2
    · rw [List.mem_singleton] at h; rw [h]; exact gd ls _ h1
theorem nums_ok {j : JobD} (hj : j.ok) (hn : ∀ d, d ∈ j.notes → d.lines.length ≤ 10000) : NumsOk j := fun y hy => by
  obtain ⟨_, a2, a3, a4, a5, a6, a7⟩ := hj.items y hy
  unfold numsJ
  split
  · refine ⟨by simp, fun n hm => ?_⟩
    simp only [List.mem_cons, List.not_mem_nil, or_false] at hm
    rcases hm with rfl | rfl
    · exact a2
    · exact a3
  · split
    · refine ⟨by simp, fun n hm => ?_⟩
      simp only [List.mem_cons, List.not_mem_nil, or_false] at hm
      rcases hm with rfl | rfl | rfl | rfl
      · exact a2
      · exact a4
      · exact a5
      · exact a6
    · split
      · split
        · rename_i d hd
          have hm := List.mem_of_getElem? hd
          have hl := hn d hm
          have := wvN_len d.lines d.pens d.lines.length
          refine ⟨by unfold weave; omega, fun n hn' => wvN_mem (hj.notes d hm).1 (hj.notes d hm).2 _ n hn'⟩
        · exact ⟨Nat.zero_le _, fun n hm => by cases hm⟩
      · split
        · split
          · rename_i f hf
            obtain ⟨b1, b2, b3⟩ := hj.floats f (List.mem_of_getElem? hf)
            refine ⟨by simp, fun n hm => ?_⟩
            simp only [List.mem_cons, List.not_mem_nil, or_false] at hm
            rcases hm with rfl | rfl | rfl
            · exact b1
            · exact b2
            · exact b3
          · exact ⟨Nat.zero_le _, fun n hm => by cases hm⟩
        · split
          · exact ⟨Nat.zero_le _, fun n hm => by cases hm⟩
          · refine ⟨by simp, fun n hm => ?_⟩
            rw [List.mem_singleton] at hm; rw [hm]; exact a7
theorem JobI.ok {x : JobI} {w : World} (h : x.good w) : x.d.ok :=
  ⟨h.len, h.g, h.iok, fun d hd => by
    obtain ⟨y, hy, rfl⟩ := List.mem_map.1 hd
    exact ⟨(h.nok y hy).1.2, (h.nok y hy).2.2⟩, h.fok⟩
/-- The numbers of any item of a job that has a text. -/
theorem nums_any (x : JobI) (w : World) (hx : x.good w) (hR : rightJ x.d = true) (hn : ∀ y, y ∈ x.nts.l → y.ls.l.length ≤ 10000) {k : Nat} {y : Itm} (hy : x.its.l[k]? = some y) :
    Calls Tryz.prog 20 #[.agg x.L.toArray, .agg y.cells.toArray] w (NumEnd w (numsJ x.d y)) := by
  unfold rightJ at hR
  simp only [Bool.and_eq_true, beq_iff_eq] at hR
  obtain ⟨⟨_, hno⟩, hA5, hA6⟩ := hR
  have hk := (List.getElem?_eq_some_iff.1 hy).1
  obtain ⟨yk, yh, yf, ys, yo, yr, yn⟩ := y
  show Calls _ _ #[_, .agg #[.int .i64 yk, .int .i64 yh, .int .i64 yf, .int .i64 ys, .int .i64 yo, .int .i64 yr, .int .i64 yn]] _ _
  by_cases h5 : yk = 5
  · subst h5
    obtain ⟨c, hc, hlt⟩ := ancI_at hA5 hk hy rfl
    simp only at hc
    subst hc
    have hlt' : c < x.nts.l.length := by simpa [JobI.d] using hlt
    obtain ⟨z, hz⟩ : ∃ z, x.nts.l[c]? = some z := ⟨_, List.getElem?_eq_getElem hlt'⟩
    have hzd : x.d.notes[c]? = some z.d := by show (x.nts.l.map Nt.d)[c]? = _; rw [List.getElem?_map, hz]; rfl
    have hnz := (List.all_eq_true.1 hno) z.d (List.mem_of_getElem? hzd)
    unfold noteI at hnz
    simp only [Bool.and_eq_true, beq_iff_eq, decide_eq_true_eq] at hnz
    have e : numsJ x.d ⟨5, yh, yf, ys, yo, yr, (c : Int)⟩ = weave z.d := by
      unfold numsJ
      simp only [Int.toNat_natCast, hzd]
      rfl
    rw [e]
    exact nums_note x w hx yh yf ys yo yr c z hz hnz.2.symm (hn z (List.mem_of_getElem? hz))
  · by_cases h6 : yk = 6
    · subst h6
      obtain ⟨c, hc, hlt⟩ := ancI_at hA6 hk hy rfl
      simp only at hc
      subst hc
      obtain ⟨z, hz⟩ : ∃ z, x.fls.l[c]? = some z := ⟨_, List.getElem?_eq_getElem hlt⟩
      have e : numsJ x.d ⟨6, yh, yf, ys, yo, yr, (c : Int)⟩ = [z.c, z.h, z.w] := by
        unfold numsJ
        have hz' : x.d.floats[c]? = some z := hz
        simp only [Int.toNat_natCast, hz']
        rfl
      rw [e]
      exact nums_float x w hx yh yf ys yo yr c z hz
    · refine nums_flat x.L yk yh yf ys yo yr yn _ ?_ w
      unfold numsJ
      by_cases h1 : yk = 1
      · exact .inl ⟨h1, by simp only [if_pos h1]⟩
      · by_cases h2 : yk = 2
        · exact .inr (.inl ⟨h2, by simp only [if_neg h1, if_pos h2]⟩)
        · by_cases h7 : yk = 7
          · exact .inr (.inr (.inl ⟨h7, by simp only [if_neg h1, if_neg h2, if_neg h5, if_neg h6, if_pos h7]⟩))
          · exact .inr (.inr (.inr ⟨h1, h2, h5, h6, h7, by simp only [if_neg h1, if_neg h2, if_neg h5, if_neg h6, if_neg h7]⟩))
theorem kinds_any (w : World) : Calls Tryz.prog 19 #[] w fun e w' => ∃ b, e = .returned (.slice (some ⟨b, 0, none⟩) 7 7) ∧ Blk w' b (kindW.map sv) 9 ∧ w.heap.size ≤ b ∧ Kp w w' := by
  go_enter Tryz.func19, Tryz.ntmps19
  go_wp2_with fail
  (try go_ret)
  exact ⟨w.heap.size, rfl, Blk.newL rfl rfl, Nat.le_refl _, (by (repeat (first | with_reducible assumption | with_reducible exact Kp.refl _ | with_reducible refine Kp.drew ?_ | with_reducible refine Kp.drewN ?_ _ | with_reducible refine Kp.alloc ?_ _ | ((with_reducible refine Kp.setCell ?_ ?_ _); rotate_left; (focus (first | omega | (simp; done) | (simp; omega)))) | with_reducible refine Kp.trans ?_ (by assumption))))⟩
end Go.Proofs.YtaekeogaakogbaaGreatDoor
namespace Go.Proofs.YtaekeogaakogbaaGreatDoor

open Go.ChangeShapes Go.WideShapes Go.ChangeAt Go.RowKit Go.Shelf

theorem exLdRow {ty : TypeId} {n : Nat} (R : RowT ty n) {o : Oper} {a : Act} {w : World} {vs : List Value} (x : Operand) (ho : o.op = .load ty x) {b off : Nat} (hr : w.rangeAt b off vs) (hv : vs.length = n) (hx : a.eval x = .pointer (some ⟨b, off, none⟩)) :
    (execOp a.eval o).run Tryz.prog w = .ok (.value (.agg vs.toArray)) w := by
  obtain ⟨d, hu, hd⟩ := R.desc
  unfold execOp
  simp only [ho, hx, Instr.loadAt, Instr.sureAddr, Sem.run_bind, Sem.run_pure, Result.andThen_ok, run_loadVar_mid w b off _ _ _ hr hu hd (by rw [hv]; exact R.size)]
theorem itm_conj {w : World} {b : Nat} {t : TypeId} {x0 x1 x2 x3 x4 x5 x6 : Int} (h : Blk w b (Itm.cells ⟨x0, x1, x2, x3, x4, x5, x6⟩) t) : w.cell? ⟨b, 0, none⟩ = some (.int .i64 x0) ∧ w.cell? ⟨b, 1, none⟩ = some (.int .i64 x1) ∧ w.cell? ⟨b, 2, none⟩ = some (.int .i64 x2) ∧ w.cell? ⟨b, 3, none⟩ = some (.int .i64 x3) ∧ w.cell? ⟨b, 4, none⟩ = some (.int .i64 x4) ∧ w.cell? ⟨b, 5, none⟩ = some (.int .i64 x5) ∧ w.cell? ⟨b, 6, none⟩ = some (.int .i64 x6) :=
  ⟨h.cell 0 rfl, h.cell 1 rfl, h.cell 2 rfl, h.cell 3 rfl, h.cell 4 rfl, h.cell 5 rfl, h.cell 6 rfl⟩
set_option maxRecDepth 100000 in
set_option maxHeartbeats 4000000 in
theorem write_no (x : JobI) (w : World) (hx : x.good w) (hR : rightJ x.d = false) (hs : x.its.l.length ≤ 100000) :
    Calls Tryz.prog 10 #[.agg x.L.toArray] w fun e w' => e = .returned (.tuple #[sv [], .bool false]) ∧ Kp w w' := by
  obtain ⟨X, hX⟩ : ∃ X, x.L = X := ⟨_, rfl⟩
  have CR := Lib.hid (fun w' (k : Kp w w') => right_any x w' (hx.kp k) (by omega))
  have HXl : Hid (X.length = 22) := Lib.hid (by rw [← hX]; exact JobI.L_len hx)
  rw [hX, hR] at CR
  rw [hX]
  clear hX hx hR
  go_enter Tryz.func10, Tryz.ntmps10
  go_wp2_with (first
    | (refine boxRowW (vs := X) rfl (.tmp 0) rfl rfl ?_; intro w1 hA hoth hkp hlt; have kw1 : Kp w w1 := hkp (Kp.refl w); clear hoth hkp)
    | (refine ldRowAt rowJob rfl (.tmp 1) rfl (vs := X) hA.range HXl.out rfl ?_)
    | (go_at_call 16; refine (CR.out _ (kw1.trans (show Kp w1 _ from (by (repeat (first | with_reducible assumption | with_reducible exact Kp.refl _ | with_reducible refine Kp.drew ?_ | with_reducible refine Kp.drewN ?_ _ | with_reducible refine Kp.alloc ?_ _ | ((with_reducible refine Kp.setCell ?_ ?_ _); rotate_left; (focus (first | omega | (simp; done) | (simp; omega)))) | with_reducible refine Kp.trans ?_ (by assumption))))))).mono ?_; rintro e w2 ⟨rfl, k2⟩))
  exact bodyPost_ret (v := .tuple #[sv [], .bool false]) (by simp [results, Tryz.results10, go_sem]) rfl ⟨rfl, kw1.trans ((show Kp w1 _ from (by (repeat (first | with_reducible assumption | with_reducible exact Kp.refl _ | with_reducible refine Kp.drew ?_ | with_reducible refine Kp.drewN ?_ _ | with_reducible refine Kp.alloc ?_ _ | ((with_reducible refine Kp.setCell ?_ ?_ _); rotate_left; (focus (first | omega | (simp; done) | (simp; omega)))) | with_reducible refine Kp.trans ?_ (by assumption))))).trans k2)⟩
set_option maxRecDepth 100000 in
set_option maxHeartbeats 8000000 in
theorem write_yes (x : JobI) (w : World) (he : Env w) (hx : x.good w) (hR : rightJ x.d = true) (hs : x.its.l.length ≤ 100000) (hn : ∀ y, y ∈ x.nts.l → y.ls.l.length ≤ 10000) :
    Calls Tryz.prog 10 #[.agg x.L.toArray] w fun e w' => e = .returned (.tuple #[sv (writeJ x.d), .bool true]) ∧ Kp w w' := by
  obtain ⟨X, hX⟩ : ∃ X, x.L = X := ⟨_, rfl⟩
  have CR := Lib.hid (fun w' (k : Kp w w') => right_any x w' (hx.kp k) (by omega))
  have CN := Lib.hid (fun w' (k : Kp w w') (i : Nat) (y : Itm) (hy : x.its.l[i]? = some y) => nums_any x w' (hx.kp k) hR hn hy)
  have HXl : Hid (X.length = 22) := Lib.hid (by rw [← hX]; exact JobI.L_len hx)
  rw [hX, hR] at CR
  rw [hX] at CN
  rw [hX]
  have X18 := Lib.hid (x.get hx.len 0 (by omega))
  have X19 := Lib.hid (x.get hx.len 1 (by omega))
  have XG : Hid (∀ (i : Nat) (n : Int), x.g[i]? = some n → X[i]? = some (.int .i64 n)) := Lib.hid fun i n h => by
    rw [← hX]; unfold JobI.L jobL intsG
    rw [List.getElem?_append_left (by rw [List.length_map]; exact (List.getElem?_eq_some_iff.1 h).1), List.getElem?_map, h]; rfl
  rw [hX] at X18 X19
  have HG18 := Lib.hid hx.len
  have HG := Lib.hid hx.g
  have HI := Lib.hid hx.its
  have hdn := nums_ok (JobI.ok hx) (fun d hd => by
    obtain ⟨y, hy, rfl⟩ := List.mem_map.1 hd
    exact hn y hy)
  have HBA : Hid (∀ (k : Nat) (y : Itm), x.its.l[k]? = some y → 1 ≤ y.k ∧ y.k ≤ 7) := Lib.hid fun k y hy => by
    unfold rightJ at hR
    simp only [Bool.and_eq_true] at hR
    exact bareI_k ((List.all_eq_true.1 hR.1.1) y (List.mem_of_getElem? hy))
  have HDN := Lib.hid hdn
  have HE := Lib.hid he
  have hc1 := hx.its.2.1
  have hm1 := hx.its.2.2.1
  unfold maxLen at hm1
  rw [hx.its.1] at hs
  have HIL := Lib.hid hx.its.1
  have HW : Hid (writeJ x.d = headN x.g 18 ++ (balT x.bal ++ itemsN x.d x.its.len)) := Lib.hid (by
    show headN x.g 18 ++ (balT x.bal ++ itemsN x.d x.its.l.length) = _
    rw [hx.its.1])
  have HDI : Hid (x.d.items = x.its.l) := Lib.hid rfl
  obtain ⟨D, hD⟩ : ∃ D, x.d = D := ⟨_, rfl⟩
  rw [hD] at CN HDN HW HDI
  rw [hD]
  obtain ⟨g, bal, ⟨a1, n, c1, l⟩, ⟨a2, m, c2, l2⟩, ⟨a3, q, c3, l3⟩⟩ := x
  simp only at CN X18 X19 XG HG18 HG HI HBA hc1 hm1 hs HIL HW HDI
  clear he hx hR hn hX hdn hD
  go_enter Tryz.func10, Tryz.ntmps10
  go_wp2_with (first
    | (refine boxRowW (vs := X) rfl (.tmp 0) rfl rfl ?_; intro w1 hA hoth hkp hlt; have kw1 : Kp w w1 := hkp (Kp.refl w); clear hoth hkp)
    | (refine ldRowAt rowJob rfl (.tmp 1) rfl (vs := X) hA.range HXl.out rfl ?_)
    | (go_at_call 16; refine (CR.out _ (kw1.trans (show Kp w1 _ from (by (repeat (first | with_reducible assumption | with_reducible exact Kp.refl _ | with_reducible refine Kp.drew ?_ | with_reducible refine Kp.drewN ?_ _ | with_reducible refine Kp.alloc ?_ _ | ((with_reducible refine Kp.setCell ?_ ?_ _); rotate_left; (focus (first | omega | (simp; done) | (simp; omega)))) | with_reducible refine Kp.trans ?_ (by assumption))))))).mono ?_; rintro e w2 ⟨rfl, k2⟩; have k12 : Kp w1 w2 := (show Kp w1 _ from (by (repeat (first | with_reducible assumption | with_reducible exact Kp.refl _ | with_reducible refine Kp.drew ?_ | with_reducible refine Kp.drewN ?_ _ | with_reducible refine Kp.alloc ?_ _ | ((with_reducible refine Kp.setCell ?_ ?_ _); rotate_left; (focus (first | omega | (simp; done) | (simp; omega)))) | with_reducible refine Kp.trans ?_ (by assumption))))).trans k2))
  refine (gauges_ty _).mono ?_
  rintro e w3 ⟨gb, rfl, hGT, k3⟩
  have hb3 := (Bld.new w2).kp k3
  have k13 : Kp w1 w3 := k12.trans (((Kp.refl w2).alloc (.cells #[.pointer none, .slice none 0 0] 61)).trans k3)
  have hal := hA.lt
  have HWB : Hid (w.heap.size ≤ w2.heap.size) := Lib.hid (kw1.trans k12).size
  have hw12 := k12.size
  have HA := Lib.hid hA
  have hbase : (w2.alloc (.cells #[.pointer none, .slice none 0 0] 61)).heap.size = w2.heap.size + 1 := by simp
  rw [hbase] at hGT
  have HGT := Lib.hid hGT
  obtain ⟨B, hB⟩ : ∃ B, w2.heap.size = B := ⟨_, rfl⟩
  rw [hB] at hb3 HGT HWB hw12 ⊢
  have HB3 := Lib.hid hb3
  clear hGT hA hb3 hbase k2 k3
  go_wp2_with fail
  go_loopw [15] (fun v15 wr => ∃ k : Nat, k ≤ 18 ∧ v15 = .int .i64 (k : Int) ∧ Bld B B (headN g k) wr ∧ GTy (B + 1) wr gb ∧ Kp w1 wr) (fun v15 _ => 18 - (intOf v15).toNat)
  case atStart => exact ⟨0, Nat.zero_le _, rfl, HB3.out, HGT.out, k13⟩
  case round =>
    obtain ⟨k, hk, rfl, xb, xg, xk⟩ := hrel
    have hbw := xb.2
    have hbl := xb.lt
    have XB := Lib.hid xb
    have XGT := Lib.hid xg
    by_cases hlt : k < 18
    · have j1 : decide ((k : Int) < 18) = true := decide_eq_true (by omega)
      have j1' : decide (k < 18) = true := decide_eq_true hlt
      obtain ⟨nn, hnn⟩ : ∃ nn, g[k]? = some nn := ⟨g[k]'(by rw [HG18.out]; exact hlt), List.getElem?_eq_getElem _⟩
      have hgn : g.getD k 0 = nn := by rw [List.getD_eq_getElem?_getD, hnn]; rfl
      have hin := HG.out nn (List.mem_of_getElem? hnn)
      have bx := (HA.out.kp xk).cell k (XG.out k nn hnn)
      have hal' := Nat.lt_of_lt_of_le hal xk.size
      obtain ⟨L, hgb, hLb, hLL⟩ := xg
      obtain ⟨c, t, hct, hcb, hC, e0, e1, e2⟩ := hLL k hlt
      have d0 := hLb.cell (k * 3) e0
      have d1 := hLb.cell (k * 3 + 1) e1
      have d2 := hLb.cell (k * 3 + 2) e2
      have dc := hC.cell 0 rfl
      have hgl := hLb.lt
      have hcl := hC.lt
      have hwl := gwAt_len hlt
      have hhl := headN_len g HG.out k hk
      obtain ⟨Y, hY⟩ : ∃ Y, gwAt k = Y := ⟨_, rfl⟩
      obtain ⟨F2, hF2⟩ : ∃ F2, gset.getD k 0 = F2 := ⟨_, rfl⟩
      obtain ⟨F1, hF1⟩ : ∃ F1, gget.getD k 0 = F1 := ⟨_, rfl⟩
      have GC := Lib.hid (fun w' h1 h2 => get_call hlt w.heap.size c nn w' h1 h2)
      have HN : Hid (headN g (k + 1) = headN g k ++ (if nn = 0 then [] else lineL Y [nn] ++ [10])) := Lib.hid (by
        show headN g k ++ _ = _
        rw [hgn, hY])
      rw [hY] at d0 hwl
      rw [hF2] at d2
      rw [hF1] at d1 GC
      have htwo := gget_two hlt
      rw [hF1] at htwo
      clear hLb hLL hC e0 e1 e2 hnn hgn hY hF2 hF1 xb
      rcases htwo with rfl | rfl
      · go_wp2_with fail
        refine (GC.out _ (by simp [World.cell?_alloc_past, hcl, dc]) (by simp [World.cell?_alloc_past, hal', bx])).mono ?_
        rintro e w4 ⟨rfl, hw4⟩
        have k4 : Kp wr w4 := by rw [hw4]; exact (by (repeat (first | with_reducible assumption | with_reducible exact Kp.refl _ | with_reducible refine Kp.drew ?_ | with_reducible refine Kp.drewN ?_ _ | with_reducible refine Kp.alloc ?_ _ | ((with_reducible refine Kp.setCell ?_ ?_ _); rotate_left; (focus (first | omega | (simp; done) | (simp; omega)))) | with_reducible refine Kp.trans ?_ (by assumption))))
        have hg4 : ∃ v1 v2, Blk w4 wr.heap.size [sv Y, v1, v2] 67 := by rw [hw4]; exact ⟨_, _, Blk.newL rfl rfl⟩
        obtain ⟨v1, v2, hg4⟩ := hg4
        have z0 := hg4.cell 0 rfl
        have zl := hg4.lt
        clear hw4 hg4 d0 d1 d2 dc bx GC
        by_cases hz : nn = 0
        · subst hz
          have HN2 : Hid (headN g (k + 1) = headN g k) := Lib.hid (by rw [HN.out, if_pos rfl, List.append_nil])
          go_wp2_with fail
          go_roundw
          case rel => exact ⟨k + 1, by omega, by go_num, by rw [HN2.out]; exact XB.out.kp k4, XGT.out.kp k4, xk.trans k4⟩
          case measure => simp [intOf]; omega
        · have q1 : (nn == 0) = false := beq_eq_false_iff_ne.2 hz
          have q2 : (nn != 0) = true := by simp [bne, q1]
          have HN2 : Hid (headN g (k + 1) = headN g k ++ (lineL Y [nn] ++ [10])) := Lib.hid (by rw [HN.out, if_neg hz])
          have HNI := Lib.hid hin
          have xb4 := (XB.out.kp k4)
          have hbl4 := xb4.lt
          clear hz hin HN
          go_wp2_with fail
          refine (lineT_any w HE.out B B HWB.out (headN g k) Y (some ⟨w4.heap.size, 0, none⟩) 1 [nn] _ ((kw1.trans (xk.trans k4)).alloc _) (row_blk (Blk.newL rfl rfl) (Nat.zero_le _) rfl) (fun g' hg' => by cases hg'; show w4.heap.size ≠ B; omega) (fun y hy => by rw [List.mem_singleton] at hy; rw [hy]; exact HNI.out) (by omega) (by simp) (by omega) (xb4.kp ((Kp.refl w4).alloc _))).mono ?_
          rintro e w5 ⟨rfl, h5, b5⟩
          have k5 : Kp w1 w5 := b5.kp ((xk.trans k4).alloc _) hw12
          have g5 := ((XGT.out.kp k4).kp ((Kp.refl w4).alloc (.cells #[.int .i64 nn] 2))).wr (Nat.lt_succ_self B) b5
          have H5 := Lib.hid h5
          clear h5
          go_wp2_with fail
          go_roundw
          case rel => exact ⟨k + 1, by omega, by go_num, by rw [HN2.out]; exact H5.out, g5, k5⟩
          case measure => simp [intOf]; omega
      · go_wp2_with fail
        refine (GC.out _ (by simp [World.cell?_alloc_past, hcl, dc]) (by simp [World.cell?_alloc_past, hal', bx])).mono ?_
        rintro e w4 ⟨rfl, hw4⟩
        have k4 : Kp wr w4 := by rw [hw4]; exact (by (repeat (first | with_reducible assumption | with_reducible exact Kp.refl _ | with_reducible refine Kp.drew ?_ | with_reducible refine Kp.drewN ?_ _ | with_reducible refine Kp.alloc ?_ _ | ((with_reducible refine Kp.setCell ?_ ?_ _); rotate_left; (focus (first | omega | (simp; done) | (simp; omega)))) | with_reducible refine Kp.trans ?_ (by assumption))))
        have hg4 : ∃ v1 v2, Blk w4 wr.heap.size [sv Y, v1, v2] 67 := by rw [hw4]; exact ⟨_, _, Blk.newL rfl rfl⟩
        obtain ⟨v1, v2, hg4⟩ := hg4
        have z0 := hg4.cell 0 rfl
        have zl := hg4.lt
        clear hw4 hg4 d0 d1 d2 dc bx GC
        by_cases hz : nn = 0
        · subst hz
          have HN2 : Hid (headN g (k + 1) = headN g k) := Lib.hid (by rw [HN.out, if_pos rfl, List.append_nil])
          go_wp2_with fail
          go_roundw
          case rel => exact ⟨k + 1, by omega, by go_num, by rw [HN2.out]; exact XB.out.kp k4, XGT.out.kp k4, xk.trans k4⟩
          case measure => simp [intOf]; omega
        · have q1 : (nn == 0) = false := beq_eq_false_iff_ne.2 hz
          have q2 : (nn != 0) = true := by simp [bne, q1]
          have HN2 : Hid (headN g (k + 1) = headN g k ++ (lineL Y [nn] ++ [10])) := Lib.hid (by rw [HN.out, if_neg hz])
          have HNI := Lib.hid hin
          have xb4 := (XB.out.kp k4)
          have hbl4 := xb4.lt
          clear hz hin HN
          go_wp2_with fail
          refine (lineT_any w HE.out B B HWB.out (headN g k) Y (some ⟨w4.heap.size, 0, none⟩) 1 [nn] _ ((kw1.trans (xk.trans k4)).alloc _) (row_blk (Blk.newL rfl rfl) (Nat.zero_le _) rfl) (fun g' hg' => by cases hg'; show w4.heap.size ≠ B; omega) (fun y hy => by rw [List.mem_singleton] at hy; rw [hy]; exact HNI.out) (by omega) (by simp) (by omega) (xb4.kp ((Kp.refl w4).alloc _))).mono ?_
          rintro e w5 ⟨rfl, h5, b5⟩
          have k5 : Kp w1 w5 := b5.kp ((xk.trans k4).alloc _) hw12
          have g5 := ((XGT.out.kp k4).kp ((Kp.refl w4).alloc (.cells #[.int .i64 nn] 2))).wr (Nat.lt_succ_self B) b5
          have H5 := Lib.hid h5
          clear h5
          go_wp2_with fail
          go_roundw
          case rel => exact ⟨k + 1, by omega, by go_num, by rw [HN2.out]; exact H5.out, g5, k5⟩
          case measure => simp [intOf]; omega
    · obtain rfl : k = 18 := by omega
      rw [show ((18 : Nat) : Int) = 18 from rfl]
      have j1 : decide ((18 : Int) < 18) = false := by decide
      have zb := (HA.out.kp xk).cell 18 (X18.out.trans rfl)
      have z19 := (HA.out.kp xk).cell 19 (X19.out.trans rfl)
      have hal' := Nat.lt_of_lt_of_le hal xk.size
      have hhl := headN_len g HG.out 18 (by omega)
      have HW1 : Hid (w.heap.size ≤ B) := HWB
      clear xg
      obtain ⟨T, hT⟩ : ∃ T, headN g 18 ++ balT bal = T := ⟨_, rfl⟩
      have hTl : T.length ≤ 2000 := by
        rw [← hT, List.length_append]
        have : (balT bal).length ≤ 100 := by cases bal <;> decide
        omega
      have HT : Hid (writeJ D = T ++ itemsN D n) := Lib.hid (by rw [HW.out, ← hT, List.append_assoc])
      have HTT := Lib.hid hT
      clear hT HW
      rcases bal with _ | _
      · have hbp : Bld B B T wr := by rw [← HTT.out]; show Bld B B (headN g 18 ++ []) wr; rw [List.append_nil]; exact XB.out
        have kp := xk
        go_wp2_with fail
        go_loopw [38] (fun v38 wr => ∃ i : Nat, i ≤ n ∧ v38 = .int .i64 (i : Int) ∧ Bld B B (T ++ itemsN D i) wr ∧ Kp w1 wr) (fun v38 _ => n - (intOf v38).toNat)
        case atStart => exact ⟨0, Nat.zero_le _, rfl, by simpa [itemsN] using hbp, kp⟩
        case round =>
          clear hbp kp
          obtain ⟨i, hi, rfl, yb, yk⟩ := hrel
          have hbw := yb.2
          have hbl := yb.lt
          have YB := Lib.hid yb
          have hTI := itemsN_len HDN.out i
          by_cases hlt : i < n
          · obtain ⟨ga, oa, ⟨x0, x1, x2, x3, x4, x5, x6⟩, rfl, hga, hx, r1⟩ := (HI.out.kp (kw1.trans yk)).at hlt
            obtain ⟨hk1, hk7⟩ := HBA.out i _ hx
            simp only at hk1 hk7
            obtain ⟨q, rfl⟩ : ∃ q : Nat, x0 = (q : Int) + 1 := ⟨(x0 - 1).toNat, by omega⟩
            have hq7 : q < 7 := by omega
            have d0 := r1 0 _ rfl; have d1 := r1 1 _ rfl; have d2 := r1 2 _ rfl; have d3 := r1 3 _ rfl; have d4 := r1 4 _ rfl; have d5 := r1 5 _ rfl; have d6 := r1 6 _ rfl
            simp only [Nat.add_zero] at d0 d1 d2 d3 d4 d5 d6
            have hdi : D.items[i]? = some (⟨(q : Int) + 1, x1, x2, x3, x4, x5, x6⟩ : Itm) := by rw [HDI.out]; exact hx
            obtain ⟨NS, hNS⟩ : ∃ NS, numsJ D (⟨(q : Int) + 1, x1, x2, x3, x4, x5, x6⟩ : Itm) = NS := ⟨_, rfl⟩
            obtain ⟨KD, hKD⟩ : ∃ KD, kindW.getD q [] = KD := ⟨_, rfl⟩
            have CNN := Lib.hid (fun w' k => CN.out w' k i _ hx)
            have hnu := HDN.out _ (List.mem_of_getElem? hdi)
            rw [hNS] at CNN hnu
            have HIT : Hid (itemsN D (i + 1) = itemsN D i ++ (lineL KD NS ++ [10])) := Lib.hid (by
              show itemsN D i ++ (match D.items[i]? with | some y => itemT D y | none => []) = _
              rw [hdi]
              show _ ++ (lineL (kindW.getD (((q : Int) + 1 - 1).toNat) []) (numsJ D _) ++ [10]) = _
              rw [hNS, show ((q : Int) + 1 - 1).toNat = q by omega, hKD])
            have HKW : Hid ((kindW.map sv)[q]? = some (sv KD)) := Lib.hid (by
              rw [← hKD, List.getElem?_map, List.getD_eq_getElem?_getD, List.getElem?_eq_getElem (show q < kindW.length from hq7)]; rfl)
            have hkl : KD.length ≤ 10 := by rw [← hKD]; exact kindW_len q
            have HNI := Lib.hid hnu.2
            have hnl := hnu.1
            have j2 : decide ((i : Int) < (n : Int)) = true := decide_eq_true (by omega)
            have hwq : IntKind.i64.wrap (q : Int) = (q : Int) := by rw [IntKind.wrap_i64]; omega
            have hbq : (0 : Int) ≤ (q : Int) := by omega
            have hbq2 : (q : Int) < 7 := by omega
            have hbq3 : ((q : Int)).toNat = q := by omega
            have hc1' : i < c1 := by omega
            have hlenT : (T ++ itemsN D i).length ≤ 100000000000 := by rw [List.length_append]; omega
            have HLT := Lib.hid hlenT
            have HAr := Lib.hid (HA.out.kp yk)
            have hal2 := Nat.lt_of_lt_of_le hal yk.size
            clear r1 hx hdi hNS hKD hnu yb hk1 hk7 hTI hlenT
            go_wp2_with fail
            refine named_world (F := fun w7 => Blk w7 wr.heap.size (Itm.cells (⟨(q : Int) + 1, x1, x2, x3, x4, x5, x6⟩ : Itm)) 43 ∧ Kp wr w7) ⟨(by (repeat (first | with_reducible assumption | ((with_reducible refine Blk.newL ?_ ?_); (focus (first | (simp; done) | omega)); rfl) | with_reducible refine Blk.drew ?_ | with_reducible refine Blk.drewN ?_ _ | with_reducible refine Blk.alloc ?_ _ | ((with_reducible refine Blk.other ?_ ?_ _); rotate_left; (focus (first | with_reducible assumption | omega | (simp; done) | (simp; omega))))))), (by (repeat (first | with_reducible assumption | with_reducible exact Kp.refl _ | with_reducible refine Kp.drew ?_ | with_reducible refine Kp.drewN ?_ _ | with_reducible refine Kp.alloc ?_ _ | ((with_reducible refine Kp.setCell ?_ ?_ _); rotate_left; (focus (first | omega | (simp; done) | (simp; omega)))) | with_reducible refine Kp.trans ?_ (by assumption))))⟩ ?_
            rintro w7 ⟨hIB, k7⟩
            have HIB := Lib.hid hIB
            have hil := hIB.lt
            have hA7 := HAr.out.kp k7
            have HA7 := Lib.hid hA7
            have hI7 := itm_conj hIB
            have HB7 := Lib.hid (YB.out.kp k7)
            have k17 : Kp w1 w7 := yk.trans k7
            have hw7 : wr.heap.size ≤ w7.heap.size := k7.size
            clear hIB d0 d1 d2 d3 d4 d5 d6
            (refine wp_region_held_drew (S := (fun w' => (w'.cell? ⟨wr.heap.size, 0, none⟩ = some (.int .i64 ((q : Int) + 1)) ∧ w'.cell? ⟨wr.heap.size, 1, none⟩ = some (.int .i64 x1) ∧ w'.cell? ⟨wr.heap.size, 2, none⟩ = some (.int .i64 x2) ∧ w'.cell? ⟨wr.heap.size, 3, none⟩ = some (.int .i64 x3) ∧ w'.cell? ⟨wr.heap.size, 4, none⟩ = some (.int .i64 x4) ∧ w'.cell? ⟨wr.heap.size, 5, none⟩ = some (.int .i64 x5) ∧ w'.cell? ⟨wr.heap.size, 6, none⟩ = some (.int .i64 x6)) ∧ Blk w' w.heap.size X 30)) (by kernel_rfl) ?_ (fun hHd => ?_); (focus ((try dsimp only); exact ⟨hI7, hA7.drew⟩)))
            (refine takeH (i := 1) (oi := ?o1) (v := ?v1) ?h1 (by kernel_rfl) ?q1 (Or.inl ⟨?w1, ?y1⟩) (by assumption) ?r1; (case h1 => ((simp only [g1, g2, g3]); rfl)); (case q1 => exact fun _ _ _ h => h); (case w1 => rfl); (case y1 => (intro w' hSw; (try dsimp only at hSw); go_simp; (try with_reducible rfl))); (try simp only [Act.put, s1, s2, s3]))
            (refine takeH (i := 2) (oi := ?o2) (v := ?v2) ?h2 (by kernel_rfl) ?q2 (Or.inl ⟨?w2, ?y2⟩) (by assumption) ?r2; (case h2 => ((simp only [g1, g2, g3]); rfl)); (case q2 => exact fun _ _ _ h => h); (case w2 => rfl); (case y2 => (intro w' hSw; (try dsimp only at hSw); go_simp; (try with_reducible rfl))); (try simp only [Act.put, s1, s2, s3]))
            (refine takeH (i := 3) (oi := ?o3) (v := ?v3) ?h3 (by kernel_rfl) ?q3 (Or.inl ⟨?w3, ?y3⟩) (by assumption) ?r3; (case h3 => ((simp only [g1, g2, g3]); rfl)); (case q3 => exact fun _ _ _ h => h); (case w3 => rfl); (case y3 => (intro w' hSw; (try dsimp only at hSw); go_simp; (try with_reducible rfl))); (try simp only [Act.put, s1, s2, s3]))
            (refine takeH (i := 6) (oi := ?o4) (v := .agg X.toArray) ?h4 (by kernel_rfl) ?q4 (Or.inl ⟨?w4, ?y4⟩) (by assumption) ?r4; (case h4 => ((simp only [g1, g2, g3]); rfl)); (case q4 => exact fun _ _ _ h => h); (case w4 => rfl); (case y4 => exact fun w' hSw => exLdRow rowJob (.tmp 1) rfl hSw.2.range HXl.out rfl); (try simp only [Act.put, s1, s2, s3]))
            (refine takeH (i := 7) (oi := ?o5) (v := ?v5) ?h5 (by kernel_rfl) ?q5 (Or.inl ⟨?w5, ?y5⟩) (by assumption) ?r5; (case h5 => ((simp only [g1, g2, g3]); rfl)); (case q5 => exact fun _ _ _ h => h); (case w5 => rfl); (case y5 => (intro w' hSw; (try dsimp only at hSw); go_simp; (try with_reducible rfl))); (try simp only [Act.put, s1, s2, s3]))
            (refine wpAnyH_ready (rs := [0]) (by kernel_rfl) (by simp) ?_; refine AllReadyH.cons (o := ?o6) ?h6 (fun K hK => ?s6) AllReadyH.nil; (case h6 => (first | ((simp only [g1, g3]); rfl) | rfl)); (go_simp; go_at_call 19; refine (kinds_any _).mono ?_; rintro e w8 ⟨bk, rfl, hbk, hle, k8⟩; (try dsimp only); have kk8 : Kp w7 w8 := (show Kp w7 _ from (by (repeat (first | with_reducible assumption | with_reducible exact Kp.refl _ | with_reducible refine Kp.drew ?_ | with_reducible refine Kp.drewN ?_ _ | with_reducible refine Kp.alloc ?_ _ | ((with_reducible refine Kp.setCell ?_ ?_ _); rotate_left; (focus (first | omega | (simp; done) | (simp; omega)))) | with_reducible refine Kp.trans ?_ (by assumption))))).trans k8; have hkc := hbk.cell q HKW.out; have hbkl := hbk.lt); refine hK.out _ _ ?_ (fun hHd => ?_); (focus ((try dsimp only); exact ⟨itm_conj (HIB.out.kp kk8), HA7.out.kp kk8⟩)); clear hK K; (try simp only [Act.put]))
            (refine takeH (i := 4) (oi := ?o8) (v := ?v8) ?h8 (by kernel_rfl) ?q8 (Or.inl ⟨?w8, ?y8⟩) (by assumption) ?r8; (case h8 => ((simp only [g1, g2, g3]); rfl)); (case q8 => exact fun _ _ _ h => h); (case w8 => rfl); (case y8 => (intro w' hSw; (try dsimp only at hSw); go_simp; (try with_reducible rfl))); (try simp only [Act.put, s1, s2, s3]))
            (refine wpAnyH_ready (rs := [5, 8]) (by kernel_rfl) (by simp) ?_; refine (AllReadyH.cons (o := ?o9) ?h9 (fun K hK => ?s9) (AllReadyH.cons (o := ?o10) ?h10 (fun K hK => ?s10) AllReadyH.nil)); (case h9 => (first | ((simp only [g1, g2, g3]); rfl) | rfl)); (case h10 => (first | ((simp only [g1, g2, g3]); rfl) | rfl)))
            (go_simp; (try dsimp only); refine hK.out _ _ ?_ (fun hHd => ?_); (focus ((try dsimp only); exact hHd)); clear hK K; (try simp only [Act.put, s1, s2, s3]))
            (refine wpAnyH_ready (rs := [8]) (by kernel_rfl) (by simp) ?_; refine AllReadyH.cons (o := ?o11) ?h11 (fun K hK => ?s11) AllReadyH.nil; (case h11 => (first | ((simp only [g1, g2, g3]); rfl) | rfl)); (go_simp; go_at_call 20; refine (CNN.out _ (kw1.trans (k17.trans (kk8.trans (show Kp w8 _ from (by (repeat (first | with_reducible assumption | with_reducible exact Kp.refl _ | with_reducible refine Kp.drew ?_ | with_reducible refine Kp.drewN ?_ _ | with_reducible refine Kp.alloc ?_ _ | ((with_reducible refine Kp.setCell ?_ ?_ _); rotate_left; (focus (first | omega | (simp; done) | (simp; omega)))) | with_reducible refine Kp.trans ?_ (by assumption))))))))).mono ?_; rintro e w9 ⟨k9, na, nc, rfl, hnr⟩; (try dsimp only); have k89 : Kp w8 w9 := (show Kp w8 _ from (by (repeat (first | with_reducible assumption | with_reducible exact Kp.refl _ | with_reducible refine Kp.drew ?_ | with_reducible refine Kp.drewN ?_ _ | with_reducible refine Kp.alloc ?_ _ | ((with_reducible refine Kp.setCell ?_ ?_ _); rotate_left; (focus (first | omega | (simp; done) | (simp; omega)))) | with_reducible refine Kp.trans ?_ (by assumption))))).trans k9; have kk9 : Kp w7 w9 := kk8.trans k89; have hkc9 := (k89.cell (p := ⟨bk, q, none⟩) hbkl).trans hkc; have hno : ∀ g', (Value.slice na NS.length nc).ownBlock = some g' → g' ≠ B := (fun g' hg' => by have h1 := (hnr.lt g' hg').1; have h2 : w8.heap.size ≤ _ := (show Kp w8 _ from (by (repeat (first | with_reducible assumption | with_reducible exact Kp.refl _ | with_reducible refine Kp.drew ?_ | with_reducible refine Kp.drewN ?_ _ | with_reducible refine Kp.alloc ?_ _ | ((with_reducible refine Kp.setCell ?_ ?_ _); rotate_left; (focus (first | omega | (simp; done) | (simp; omega)))) | with_reducible refine Kp.trans ?_ (by assumption))))).size; have h3 := kk8.size; omega); have HNR := Lib.hid (hnr.low (Nat.zero_le _)); clear hnr); refine hK.out _ _ ?_ (fun hHd => ?_); (focus ((try dsimp only); exact ⟨itm_conj (HIB.out.kp kk9), HA7.out.kp kk9⟩)); clear hK K; (try simp only [Act.put]))
            (refine wpAnyH_ready (rs := [9]) (by kernel_rfl) (by simp) ?_; refine AllReadyH.cons (o := ?o13) ?h13 (fun K hK => ?s13) AllReadyH.nil; (case h13 => (first | ((simp only [g1, g2, g3]); rfl) | rfl)); (go_simp; go_at_call 18; refine (lineT_any w HE.out B B HWB.out (T ++ itemsN D i) KD na nc NS _ (kw1.trans (k17.trans (kk9.trans (show Kp w9 _ from (by (repeat (first | with_reducible assumption | with_reducible exact Kp.refl _ | with_reducible refine Kp.drew ?_ | with_reducible refine Kp.drewN ?_ _ | with_reducible refine Kp.alloc ?_ _ | ((with_reducible refine Kp.setCell ?_ ?_ _); rotate_left; (focus (first | omega | (simp; done) | (simp; omega)))) | with_reducible refine Kp.trans ?_ (by assumption)))))))) (HNR.out.kp (show Kp w9 _ from (by (repeat (first | with_reducible assumption | with_reducible exact Kp.refl _ | with_reducible refine Kp.drew ?_ | with_reducible refine Kp.drewN ?_ _ | with_reducible refine Kp.alloc ?_ _ | ((with_reducible refine Kp.setCell ?_ ?_ _); rotate_left; (focus (first | omega | (simp; done) | (simp; omega)))) | with_reducible refine Kp.trans ?_ (by assumption)))))) hno HNI.out (by omega) (by omega) HLT.out (HB7.out.kp (kk9.trans (show Kp w9 _ from (by (repeat (first | with_reducible assumption | with_reducible exact Kp.refl _ | with_reducible refine Kp.drew ?_ | with_reducible refine Kp.drewN ?_ _ | with_reducible refine Kp.alloc ?_ _ | ((with_reducible refine Kp.setCell ?_ ?_ _); rotate_left; (focus (first | omega | (simp; done) | (simp; omega)))) | with_reducible refine Kp.trans ?_ (by assumption)))))))).mono ?_; rintro e w10 ⟨rfl, h10, b10⟩; (try dsimp only); have k10 : Kp w1 w10 := b10.kp (k17.trans (kk9.trans (show Kp w9 _ from (by (repeat (first | with_reducible assumption | with_reducible exact Kp.refl _ | with_reducible refine Kp.drew ?_ | with_reducible refine Kp.drewN ?_ _ | with_reducible refine Kp.alloc ?_ _ | ((with_reducible refine Kp.setCell ?_ ?_ _); rotate_left; (focus (first | omega | (simp; done) | (simp; omega)))) | with_reducible refine Kp.trans ?_ (by assumption))))))) hw12; have H10 := Lib.hid h10; clear h10); refine hK.out _ _ ?_ (fun hHd => ?_); (focus ((try dsimp only); exact ⟨itm_conj ((HIB.out.kp (kk9.trans (show Kp w9 _ from (by (repeat (first | with_reducible assumption | with_reducible exact Kp.refl _ | with_reducible refine Kp.drew ?_ | with_reducible refine Kp.drewN ?_ _ | with_reducible refine Kp.alloc ?_ _ | ((with_reducible refine Kp.setCell ?_ ?_ _); rotate_left; (focus (first | omega | (simp; done) | (simp; omega)))) | with_reducible refine Kp.trans ?_ (by assumption))))))).wr (by decide) (by omega) b10), (HA7.out.kp (kk9.trans (show Kp w9 _ from (by (repeat (first | with_reducible assumption | with_reducible exact Kp.refl _ | with_reducible refine Kp.drew ?_ | with_reducible refine Kp.drewN ?_ _ | with_reducible refine Kp.alloc ?_ _ | ((with_reducible refine Kp.setCell ?_ ?_ _); rotate_left; (focus (first | omega | (simp; done) | (simp; omega)))) | with_reducible refine Kp.trans ?_ (by assumption))))))).wr (by decide) (by omega) b10⟩)); clear hK K; (try simp only [Act.put]))
            refine wpAnyH_done (by kernel_rfl) ?_ _
            rotate_left
            ((go_simp; go_at_call 20; refine (CNN.out _ (kw1.trans (k17.trans (kk8.trans (show Kp w8 _ from (by (repeat (first | with_reducible assumption | with_reducible exact Kp.refl _ | with_reducible refine Kp.drew ?_ | with_reducible refine Kp.drewN ?_ _ | with_reducible refine Kp.alloc ?_ _ | ((with_reducible refine Kp.setCell ?_ ?_ _); rotate_left; (focus (first | omega | (simp; done) | (simp; omega)))) | with_reducible refine Kp.trans ?_ (by assumption))))))))).mono ?_; rintro e w9 ⟨k9, na, nc, rfl, hnr⟩; (try dsimp only); have k89 : Kp w8 w9 := (show Kp w8 _ from (by (repeat (first | with_reducible assumption | with_reducible exact Kp.refl _ | with_reducible refine Kp.drew ?_ | with_reducible refine Kp.drewN ?_ _ | with_reducible refine Kp.alloc ?_ _ | ((with_reducible refine Kp.setCell ?_ ?_ _); rotate_left; (focus (first | omega | (simp; done) | (simp; omega)))) | with_reducible refine Kp.trans ?_ (by assumption))))).trans k9; have kk9 : Kp w7 w9 := kk8.trans k89; have hkc9 := (k89.cell (p := ⟨bk, q, none⟩) hbkl).trans hkc; have hno : ∀ g', (Value.slice na NS.length nc).ownBlock = some g' → g' ≠ B := (fun g' hg' => by have h1 := (hnr.lt g' hg').1; have h2 : w8.heap.size ≤ _ := (show Kp w8 _ from (by (repeat (first | with_reducible assumption | with_reducible exact Kp.refl _ | with_reducible refine Kp.drew ?_ | with_reducible refine Kp.drewN ?_ _ | with_reducible refine Kp.alloc ?_ _ | ((with_reducible refine Kp.setCell ?_ ?_ _); rotate_left; (focus (first | omega | (simp; done) | (simp; omega)))) | with_reducible refine Kp.trans ?_ (by assumption))))).size; have h3 := kk8.size; omega); have HNR := Lib.hid (hnr.low (Nat.zero_le _)); clear hnr); refine hK.out _ _ ?_ (fun hHd => ?_); (focus ((try dsimp only); exact ⟨itm_conj (HIB.out.kp kk9), HA7.out.kp kk9⟩)); clear hK K; (try simp only [Act.put]))
            (refine wpAnyH_ready (rs := [5]) (by kernel_rfl) (by simp) ?_; refine AllReadyH.cons (o := ?o16) ?h16 (fun K hK => ?s16) AllReadyH.nil; (case h16 => (first | ((simp only [g1, g2, g3]); rfl) | rfl)); go_simp; (try dsimp only); refine hK.out _ _ ?_ (fun hHd => ?_); (focus ((try dsimp only); exact hHd)); clear hK K; (try simp only [Act.put, s1, s2, s3]))
            (refine wpAnyH_ready (rs := [9]) (by kernel_rfl) (by simp) ?_; refine AllReadyH.cons (o := ?o17) ?h17 (fun K hK => ?s17) AllReadyH.nil; (case h17 => (first | ((simp only [g1, g2, g3]); rfl) | rfl)); (go_simp; go_at_call 18; refine (lineT_any w HE.out B B HWB.out (T ++ itemsN D i) KD na nc NS _ (kw1.trans (k17.trans (kk9.trans (show Kp w9 _ from (by (repeat (first | with_reducible assumption | with_reducible exact Kp.refl _ | with_reducible refine Kp.drew ?_ | with_reducible refine Kp.drewN ?_ _ | with_reducible refine Kp.alloc ?_ _ | ((with_reducible refine Kp.setCell ?_ ?_ _); rotate_left; (focus (first | omega | (simp; done) | (simp; omega)))) | with_reducible refine Kp.trans ?_ (by assumption)))))))) (HNR.out.kp (show Kp w9 _ from (by (repeat (first | with_reducible assumption | with_reducible exact Kp.refl _ | with_reducible refine Kp.drew ?_ | with_reducible refine Kp.drewN ?_ _ | with_reducible refine Kp.alloc ?_ _ | ((with_reducible refine Kp.setCell ?_ ?_ _); rotate_left; (focus (first | omega | (simp; done) | (simp; omega)))) | with_reducible refine Kp.trans ?_ (by assumption)))))) hno HNI.out (by omega) (by omega) HLT.out (HB7.out.kp (kk9.trans (show Kp w9 _ from (by (repeat (first | with_reducible assumption | with_reducible exact Kp.refl _ | with_reducible refine Kp.drew ?_ | with_reducible refine Kp.drewN ?_ _ | with_reducible refine Kp.alloc ?_ _ | ((with_reducible refine Kp.setCell ?_ ?_ _); rotate_left; (focus (first | omega | (simp; done) | (simp; omega)))) | with_reducible refine Kp.trans ?_ (by assumption)))))))).mono ?_; rintro e w10 ⟨rfl, h10, b10⟩; (try dsimp only); have k10 : Kp w1 w10 := b10.kp (k17.trans (kk9.trans (show Kp w9 _ from (by (repeat (first | with_reducible assumption | with_reducible exact Kp.refl _ | with_reducible refine Kp.drew ?_ | with_reducible refine Kp.drewN ?_ _ | with_reducible refine Kp.alloc ?_ _ | ((with_reducible refine Kp.setCell ?_ ?_ _); rotate_left; (focus (first | omega | (simp; done) | (simp; omega)))) | with_reducible refine Kp.trans ?_ (by assumption))))))) hw12; have H10 := Lib.hid h10; clear h10); refine hK.out _ _ ?_ (fun hHd => ?_); (focus ((try dsimp only); exact ⟨itm_conj ((HIB.out.kp (kk9.trans (show Kp w9 _ from (by (repeat (first | with_reducible assumption | with_reducible exact Kp.refl _ | with_reducible refine Kp.drew ?_ | with_reducible refine Kp.drewN ?_ _ | with_reducible refine Kp.alloc ?_ _ | ((with_reducible refine Kp.setCell ?_ ?_ _); rotate_left; (focus (first | omega | (simp; done) | (simp; omega)))) | with_reducible refine Kp.trans ?_ (by assumption))))))).wr (by decide) (by omega) b10), (HA7.out.kp (kk9.trans (show Kp w9 _ from (by (repeat (first | with_reducible assumption | with_reducible exact Kp.refl _ | with_reducible refine Kp.drew ?_ | with_reducible refine Kp.drewN ?_ _ | with_reducible refine Kp.alloc ?_ _ | ((with_reducible refine Kp.setCell ?_ ?_ _); rotate_left; (focus (first | omega | (simp; done) | (simp; omega)))) | with_reducible refine Kp.trans ?_ (by assumption))))))).wr (by decide) (by omega) b10⟩)); clear hK K; (try simp only [Act.put]))
            refine wpAnyH_done (by kernel_rfl) ?_ _
            rotate_left
            all_goals
              (try clear hHd)
              go_wp2_with fail
              go_roundw
              case rel => exact ⟨i + 1, by omega, by go_num, by rw [HIT.out, ← List.append_assoc]; exact H10.out, k10⟩
              case measure => simp [intOf]; omega
          · obtain rfl : i = n := by omega
            have j2 : decide ((i : Int) < (i : Int)) = false := decide_eq_false (by omega)
            go_wp2_with fail
            refine (getString B B _ _ YB.out).mono ?_
            rintro e w2 ⟨rfl, b2⟩
            have k2' : Kp w w2 := Below.trans (kw1.trans yk) (Below.mono b2 HWB.out)
            go_wp2_with fail
            exact bodyPost_ret (v := .tuple #[sv (T ++ itemsN D i), .bool true]) (by simp [results, Tryz.results10, go_sem]) rfl ⟨by rw [HT.out], k2'⟩
      · go_wp2_with fail
        refine (lineT_any w HE.out B B HWB.out (headN g 18) wBal none 0 [] _ (kw1.trans xk) (Row.nil _ _ _ _ _) (fun g' hg' => by cases hg') (fun y hy => by cases hy) (by decide) (by decide) (by omega) XB.out).mono ?_
        rintro e w5 ⟨rfl, h5, b5⟩
        have hbp : Bld B B T w5 := by rw [← HTT.out]; exact h5
        have kp : Kp w1 w5 := b5.kp xk hw12
        have y19 := (HA.out.kp kp).cell 19 (X19.out.trans rfl)
        have hal5 := Nat.lt_of_lt_of_le hal kp.size
        clear zb z19 h5 hbl hbw XB XGT hhl hal'
        go_wp2_with fail
        go_loopw [38] (fun v38 wr => ∃ i : Nat, i ≤ n ∧ v38 = .int .i64 (i : Int) ∧ Bld B B (T ++ itemsN D i) wr ∧ Kp w1 wr) (fun v38 _ => n - (intOf v38).toNat)
        case atStart => exact ⟨0, Nat.zero_le _, rfl, by simpa [itemsN] using hbp, kp⟩
        case round =>
          clear hbp kp
          obtain ⟨i, hi, rfl, yb, yk⟩ := hrel
          have hbw := yb.2
          have hbl := yb.lt
          have YB := Lib.hid yb
          have hTI := itemsN_len HDN.out i
          by_cases hlt : i < n
          · obtain ⟨ga, oa, ⟨x0, x1, x2, x3, x4, x5, x6⟩, rfl, hga, hx, r1⟩ := (HI.out.kp (kw1.trans yk)).at hlt
            obtain ⟨hk1, hk7⟩ := HBA.out i _ hx
            simp only at hk1 hk7
            obtain ⟨q, rfl⟩ : ∃ q : Nat, x0 = (q : Int) + 1 := ⟨(x0 - 1).toNat, by omega⟩
            have hq7 : q < 7 := by omega
            have d0 := r1 0 _ rfl; have d1 := r1 1 _ rfl; have d2 := r1 2 _ rfl; have d3 := r1 3 _ rfl; have d4 := r1 4 _ rfl; have d5 := r1 5 _ rfl; have d6 := r1 6 _ rfl
            simp only [Nat.add_zero] at d0 d1 d2 d3 d4 d5 d6
            have hdi : D.items[i]? = some (⟨(q : Int) + 1, x1, x2, x3, x4, x5, x6⟩ : Itm) := by rw [HDI.out]; exact hx
            obtain ⟨NS, hNS⟩ : ∃ NS, numsJ D (⟨(q : Int) + 1, x1, x2, x3, x4, x5, x6⟩ : Itm) = NS := ⟨_, rfl⟩
            obtain ⟨KD, hKD⟩ : ∃ KD, kindW.getD q [] = KD := ⟨_, rfl⟩
            have CNN := Lib.hid (fun w' k => CN.out w' k i _ hx)
            have hnu := HDN.out _ (List.mem_of_getElem? hdi)
            rw [hNS] at CNN hnu
            have HIT : Hid (itemsN D (i + 1) = itemsN D i ++ (lineL KD NS ++ [10])) := Lib.hid (by
              show itemsN D i ++ (match D.items[i]? with | some y => itemT D y | none => []) = _
              rw [hdi]
              show _ ++ (lineL (kindW.getD (((q : Int) + 1 - 1).toNat) []) (numsJ D _) ++ [10]) = _
              rw [hNS, show ((q : Int) + 1 - 1).toNat = q by omega, hKD])
            have HKW : Hid ((kindW.map sv)[q]? = some (sv KD)) := Lib.hid (by
              rw [← hKD, List.getElem?_map, List.getD_eq_getElem?_getD, List.getElem?_eq_getElem (show q < kindW.length from hq7)]; rfl)
            have hkl : KD.length ≤ 10 := by rw [← hKD]; exact kindW_len q
            have HNI := Lib.hid hnu.2
            have hnl := hnu.1
            have j2 : decide ((i : Int) < (n : Int)) = true := decide_eq_true (by omega)
            have hwq : IntKind.i64.wrap (q : Int) = (q : Int) := by rw [IntKind.wrap_i64]; omega
            have hbq : (0 : Int) ≤ (q : Int) := by omega
            have hbq2 : (q : Int) < 7 := by omega
            have hbq3 : ((q : Int)).toNat = q := by omega
            have hc1' : i < c1 := by omega
            have hlenT : (T ++ itemsN D i).length ≤ 100000000000 := by rw [List.length_append]; omega
            have HLT := Lib.hid hlenT
            have HAr := Lib.hid (HA.out.kp yk)
            have hal2 := Nat.lt_of_lt_of_le hal yk.size
            clear r1 hx hdi hNS hKD hnu yb hk1 hk7 hTI hlenT
            go_wp2_with fail
            refine named_world (F := fun w7 => Blk w7 wr.heap.size (Itm.cells (⟨(q : Int) + 1, x1, x2, x3, x4, x5, x6⟩ : Itm)) 43 ∧ Kp wr w7) ⟨(by (repeat (first | with_reducible assumption | ((with_reducible refine Blk.newL ?_ ?_); (focus (first | (simp; done) | omega)); rfl) | with_reducible refine Blk.drew ?_ | with_reducible refine Blk.drewN ?_ _ | with_reducible refine Blk.alloc ?_ _ | ((with_reducible refine Blk.other ?_ ?_ _); rotate_left; (focus (first | with_reducible assumption | omega | (simp; done) | (simp; omega))))))), (by (repeat (first | with_reducible assumption | with_reducible exact Kp.refl _ | with_reducible refine Kp.drew ?_ | with_reducible refine Kp.drewN ?_ _ | with_reducible refine Kp.alloc ?_ _ | ((with_reducible refine Kp.setCell ?_ ?_ _); rotate_left; (focus (first | omega | (simp; done) | (simp; omega)))) | with_reducible refine Kp.trans ?_ (by assumption))))⟩ ?_
            rintro w7 ⟨hIB, k7⟩
            have HIB := Lib.hid hIB
            have hil := hIB.lt
            have hA7 := HAr.out.kp k7
            have HA7 := Lib.hid hA7
            have hI7 := itm_conj hIB
            have HB7 := Lib.hid (YB.out.kp k7)
            have k17 : Kp w1 w7 := yk.trans k7
            have hw7 : wr.heap.size ≤ w7.heap.size := k7.size
            clear hIB d0 d1 d2 d3 d4 d5 d6
            (refine wp_region_held_drew (S := (fun w' => (w'.cell? ⟨wr.heap.size, 0, none⟩ = some (.int .i64 ((q : Int) + 1)) ∧ w'.cell? ⟨wr.heap.size, 1, none⟩ = some (.int .i64 x1) ∧ w'.cell? ⟨wr.heap.size, 2, none⟩ = some (.int .i64 x2) ∧ w'.cell? ⟨wr.heap.size, 3, none⟩ = some (.int .i64 x3) ∧ w'.cell? ⟨wr.heap.size, 4, none⟩ = some (.int .i64 x4) ∧ w'.cell? ⟨wr.heap.size, 5, none⟩ = some (.int .i64 x5) ∧ w'.cell? ⟨wr.heap.size, 6, none⟩ = some (.int .i64 x6)) ∧ Blk w' w.heap.size X 30)) (by kernel_rfl) ?_ (fun hHd => ?_); (focus ((try dsimp only); exact ⟨hI7, hA7.drew⟩)))
            (refine takeH (i := 1) (oi := ?o19) (v := ?v19) ?h19 (by kernel_rfl) ?q19 (Or.inl ⟨?w19, ?y19⟩) (by assumption) ?r19; (case h19 => ((simp only [g1, g2, g3]); rfl)); (case q19 => exact fun _ _ _ h => h); (case w19 => rfl); (case y19 => (intro w' hSw; (try dsimp only at hSw); go_simp; (try with_reducible rfl))); (try simp only [Act.put, s1, s2, s3]))
            (refine takeH (i := 2) (oi := ?o20) (v := ?v20) ?h20 (by kernel_rfl) ?q20 (Or.inl ⟨?w20, ?y20⟩) (by assumption) ?r20; (case h20 => ((simp only [g1, g2, g3]); rfl)); (case q20 => exact fun _ _ _ h => h); (case w20 => rfl); (case y20 => (intro w' hSw; (try dsimp only at hSw); go_simp; (try with_reducible rfl))); (try simp only [Act.put, s1, s2, s3]))
            (refine takeH (i := 3) (oi := ?o21) (v := ?v21) ?h21 (by kernel_rfl) ?q21 (Or.inl ⟨?w21, ?y21⟩) (by assumption) ?r21; (case h21 => ((simp only [g1, g2, g3]); rfl)); (case q21 => exact fun _ _ _ h => h); (case w21 => rfl); (case y21 => (intro w' hSw; (try dsimp only at hSw); go_simp; (try with_reducible rfl))); (try simp only [Act.put, s1, s2, s3]))
            (refine takeH (i := 6) (oi := ?o22) (v := .agg X.toArray) ?h22 (by kernel_rfl) ?q22 (Or.inl ⟨?w22, ?y22⟩) (by assumption) ?r22; (case h22 => ((simp only [g1, g2, g3]); rfl)); (case q22 => exact fun _ _ _ h => h); (case w22 => rfl); (case y22 => exact fun w' hSw => exLdRow rowJob (.tmp 1) rfl hSw.2.range HXl.out rfl); (try simp only [Act.put, s1, s2, s3]))
            (refine takeH (i := 7) (oi := ?o23) (v := ?v23) ?h23 (by kernel_rfl) ?q23 (Or.inl ⟨?w23, ?y23⟩) (by assumption) ?r23; (case h23 => ((simp only [g1, g2, g3]); rfl)); (case q23 => exact fun _ _ _ h => h); (case w23 => rfl); (case y23 => (intro w' hSw; (try dsimp only at hSw); go_simp; (try with_reducible rfl))); (try simp only [Act.put, s1, s2, s3]))
            (refine wpAnyH_ready (rs := [0]) (by kernel_rfl) (by simp) ?_; refine AllReadyH.cons (o := ?o24) ?h24 (fun K hK => ?s24) AllReadyH.nil; (case h24 => (first | ((simp only [g1, g3]); rfl) | rfl)); (go_simp; go_at_call 19; refine (kinds_any _).mono ?_; rintro e w8 ⟨bk, rfl, hbk, hle, k8⟩; (try dsimp only); have kk8 : Kp w7 w8 := (show Kp w7 _ from (by (repeat (first | with_reducible assumption | with_reducible exact Kp.refl _ | with_reducible refine Kp.drew ?_ | with_reducible refine Kp.drewN ?_ _ | with_reducible refine Kp.alloc ?_ _ | ((with_reducible refine Kp.setCell ?_ ?_ _); rotate_left; (focus (first | omega | (simp; done) | (simp; omega)))) | with_reducible refine Kp.trans ?_ (by assumption))))).trans k8; have hkc := hbk.cell q HKW.out; have hbkl := hbk.lt); refine hK.out _ _ ?_ (fun hHd => ?_); (focus ((try dsimp only); exact ⟨itm_conj (HIB.out.kp kk8), HA7.out.kp kk8⟩)); clear hK K; (try simp only [Act.put]))
            (refine takeH (i := 4) (oi := ?o26) (v := ?v26) ?h26 (by kernel_rfl) ?q26 (Or.inl ⟨?w26, ?y26⟩) (by assumption) ?r26; (case h26 => ((simp only [g1, g2, g3]); rfl)); (case q26 => exact fun _ _ _ h => h); (case w26 => rfl); (case y26 => (intro w' hSw; (try dsimp only at hSw); go_simp; (try with_reducible rfl))); (try simp only [Act.put, s1, s2, s3]))
            (refine wpAnyH_ready (rs := [5, 8]) (by kernel_rfl) (by simp) ?_; refine (AllReadyH.cons (o := ?o27) ?h27 (fun K hK => ?s27) (AllReadyH.cons (o := ?o28) ?h28 (fun K hK => ?s28) AllReadyH.nil)); (case h27 => (first | ((simp only [g1, g2, g3]); rfl) | rfl)); (case h28 => (first | ((simp only [g1, g2, g3]); rfl) | rfl)))
            (go_simp; (try dsimp only); refine hK.out _ _ ?_ (fun hHd => ?_); (focus ((try dsimp only); exact hHd)); clear hK K; (try simp only [Act.put, s1, s2, s3]))
            (refine wpAnyH_ready (rs := [8]) (by kernel_rfl) (by simp) ?_; refine AllReadyH.cons (o := ?o29) ?h29 (fun K hK => ?s29) AllReadyH.nil; (case h29 => (first | ((simp only [g1, g2, g3]); rfl) | rfl)); (go_simp; go_at_call 20; refine (CNN.out _ (kw1.trans (k17.trans (kk8.trans (show Kp w8 _ from (by (repeat (first | with_reducible assumption | with_reducible exact Kp.refl _ | with_reducible refine Kp.drew ?_ | with_reducible refine Kp.drewN ?_ _ | with_reducible refine Kp.alloc ?_ _ | ((with_reducible refine Kp.setCell ?_ ?_ _); rotate_left; (focus (first | omega | (simp; done) | (simp; omega)))) | with_reducible refine Kp.trans ?_ (by assumption))))))))).mono ?_; rintro e w9 ⟨k9, na, nc, rfl, hnr⟩; (try dsimp only); have k89 : Kp w8 w9 := (show Kp w8 _ from (by (repeat (first | with_reducible assumption | with_reducible exact Kp.refl _ | with_reducible refine Kp.drew ?_ | with_reducible refine Kp.drewN ?_ _ | with_reducible refine Kp.alloc ?_ _ | ((with_reducible refine Kp.setCell ?_ ?_ _); rotate_left; (focus (first | omega | (simp; done) | (simp; omega)))) | with_reducible refine Kp.trans ?_ (by assumption))))).trans k9; have kk9 : Kp w7 w9 := kk8.trans k89; have hkc9 := (k89.cell (p := ⟨bk, q, none⟩) hbkl).trans hkc; have hno : ∀ g', (Value.slice na NS.length nc).ownBlock = some g' → g' ≠ B := (fun g' hg' => by have h1 := (hnr.lt g' hg').1; have h2 : w8.heap.size ≤ _ := (show Kp w8 _ from (by (repeat (first | with_reducible assumption | with_reducible exact Kp.refl _ | with_reducible refine Kp.drew ?_ | with_reducible refine Kp.drewN ?_ _ | with_reducible refine Kp.alloc ?_ _ | ((with_reducible refine Kp.setCell ?_ ?_ _); rotate_left; (focus (first | omega | (simp; done) | (simp; omega)))) | with_reducible refine Kp.trans ?_ (by assumption))))).size; have h3 := kk8.size; omega); have HNR := Lib.hid (hnr.low (Nat.zero_le _)); clear hnr); refine hK.out _ _ ?_ (fun hHd => ?_); (focus ((try dsimp only); exact ⟨itm_conj (HIB.out.kp kk9), HA7.out.kp kk9⟩)); clear hK K; (try simp only [Act.put]))
            (refine wpAnyH_ready (rs := [9]) (by kernel_rfl) (by simp) ?_; refine AllReadyH.cons (o := ?o31) ?h31 (fun K hK => ?s31) AllReadyH.nil; (case h31 => (first | ((simp only [g1, g2, g3]); rfl) | rfl)); (go_simp; go_at_call 18; refine (lineT_any w HE.out B B HWB.out (T ++ itemsN D i) KD na nc NS _ (kw1.trans (k17.trans (kk9.trans (show Kp w9 _ from (by (repeat (first | with_reducible assumption | with_reducible exact Kp.refl _ | with_reducible refine Kp.drew ?_ | with_reducible refine Kp.drewN ?_ _ | with_reducible refine Kp.alloc ?_ _ | ((with_reducible refine Kp.setCell ?_ ?_ _); rotate_left; (focus (first | omega | (simp; done) | (simp; omega)))) | with_reducible refine Kp.trans ?_ (by assumption)))))))) (HNR.out.kp (show Kp w9 _ from (by (repeat (first | with_reducible assumption | with_reducible exact Kp.refl _ | with_reducible refine Kp.drew ?_ | with_reducible refine Kp.drewN ?_ _ | with_reducible refine Kp.alloc ?_ _ | ((with_reducible refine Kp.setCell ?_ ?_ _); rotate_left; (focus (first | omega | (simp; done) | (simp; omega)))) | with_reducible refine Kp.trans ?_ (by assumption)))))) hno HNI.out (by omega) (by omega) HLT.out (HB7.out.kp (kk9.trans (show Kp w9 _ from (by (repeat (first | with_reducible assumption | with_reducible exact Kp.refl _ | with_reducible refine Kp.drew ?_ | with_reducible refine Kp.drewN ?_ _ | with_reducible refine Kp.alloc ?_ _ | ((with_reducible refine Kp.setCell ?_ ?_ _); rotate_left; (focus (first | omega | (simp; done) | (simp; omega)))) | with_reducible refine Kp.trans ?_ (by assumption)))))))).mono ?_; rintro e w10 ⟨rfl, h10, b10⟩; (try dsimp only); have k10 : Kp w1 w10 := b10.kp (k17.trans (kk9.trans (show Kp w9 _ from (by (repeat (first | with_reducible assumption | with_reducible exact Kp.refl _ | with_reducible refine Kp.drew ?_ | with_reducible refine Kp.drewN ?_ _ | with_reducible refine Kp.alloc ?_ _ | ((with_reducible refine Kp.setCell ?_ ?_ _); rotate_left; (focus (first | omega | (simp; done) | (simp; omega)))) | with_reducible refine Kp.trans ?_ (by assumption))))))) hw12; have H10 := Lib.hid h10; clear h10); refine hK.out _ _ ?_ (fun hHd => ?_); (focus ((try dsimp only); exact ⟨itm_conj ((HIB.out.kp (kk9.trans (show Kp w9 _ from (by (repeat (first | with_reducible assumption | with_reducible exact Kp.refl _ | with_reducible refine Kp.drew ?_ | with_reducible refine Kp.drewN ?_ _ | with_reducible refine Kp.alloc ?_ _ | ((with_reducible refine Kp.setCell ?_ ?_ _); rotate_left; (focus (first | omega | (simp; done) | (simp; omega)))) | with_reducible refine Kp.trans ?_ (by assumption))))))).wr (by decide) (by omega) b10), (HA7.out.kp (kk9.trans (show Kp w9 _ from (by (repeat (first | with_reducible assumption | with_reducible exact Kp.refl _ | with_reducible refine Kp.drew ?_ | with_reducible refine Kp.drewN ?_ _ | with_reducible refine Kp.alloc ?_ _ | ((with_reducible refine Kp.setCell ?_ ?_ _); rotate_left; (focus (first | omega | (simp; done) | (simp; omega)))) | with_reducible refine Kp.trans ?_ (by assumption))))))).wr (by decide) (by omega) b10⟩)); clear hK K; (try simp only [Act.put]))
            refine wpAnyH_done (by kernel_rfl) ?_ _
            rotate_left
            ((go_simp; go_at_call 20; refine (CNN.out _ (kw1.trans (k17.trans (kk8.trans (show Kp w8 _ from (by (repeat (first | with_reducible assumption | with_reducible exact Kp.refl _ | with_reducible refine Kp.drew ?_ | with_reducible refine Kp.drewN ?_ _ | with_reducible refine Kp.alloc ?_ _ | ((with_reducible refine Kp.setCell ?_ ?_ _); rotate_left; (focus (first | omega | (simp; done) | (simp; omega)))) | with_reducible refine Kp.trans ?_ (by assumption))))))))).mono ?_; rintro e w9 ⟨k9, na, nc, rfl, hnr⟩; (try dsimp only); have k89 : Kp w8 w9 := (show Kp w8 _ from (by (repeat (first | with_reducible assumption | with_reducible exact Kp.refl _ | with_reducible refine Kp.drew ?_ | with_reducible refine Kp.drewN ?_ _ | with_reducible refine Kp.alloc ?_ _ | ((with_reducible refine Kp.setCell ?_ ?_ _); rotate_left; (focus (first | omega | (simp; done) | (simp; omega)))) | with_reducible refine Kp.trans ?_ (by assumption))))).trans k9; have kk9 : Kp w7 w9 := kk8.trans k89; have hkc9 := (k89.cell (p := ⟨bk, q, none⟩) hbkl).trans hkc; have hno : ∀ g', (Value.slice na NS.length nc).ownBlock = some g' → g' ≠ B := (fun g' hg' => by have h1 := (hnr.lt g' hg').1; have h2 : w8.heap.size ≤ _ := (show Kp w8 _ from (by (repeat (first | with_reducible assumption | with_reducible exact Kp.refl _ | with_reducible refine Kp.drew ?_ | with_reducible refine Kp.drewN ?_ _ | with_reducible refine Kp.alloc ?_ _ | ((with_reducible refine Kp.setCell ?_ ?_ _); rotate_left; (focus (first | omega | (simp; done) | (simp; omega)))) | with_reducible refine Kp.trans ?_ (by assumption))))).size; have h3 := kk8.size; omega); have HNR := Lib.hid (hnr.low (Nat.zero_le _)); clear hnr); refine hK.out _ _ ?_ (fun hHd => ?_); (focus ((try dsimp only); exact ⟨itm_conj (HIB.out.kp kk9), HA7.out.kp kk9⟩)); clear hK K; (try simp only [Act.put]))
            (refine wpAnyH_ready (rs := [5]) (by kernel_rfl) (by simp) ?_; refine AllReadyH.cons (o := ?o34) ?h34 (fun K hK => ?s34) AllReadyH.nil; (case h34 => (first | ((simp only [g1, g2, g3]); rfl) | rfl)); go_simp; (try dsimp only); refine hK.out _ _ ?_ (fun hHd => ?_); (focus ((try dsimp only); exact hHd)); clear hK K; (try simp only [Act.put, s1, s2, s3]))
            (refine wpAnyH_ready (rs := [9]) (by kernel_rfl) (by simp) ?_; refine AllReadyH.cons (o := ?o35) ?h35 (fun K hK => ?s35) AllReadyH.nil; (case h35 => (first | ((simp only [g1, g2, g3]); rfl) | rfl)); (go_simp; go_at_call 18; refine (lineT_any w HE.out B B HWB.out (T ++ itemsN D i) KD na nc NS _ (kw1.trans (k17.trans (kk9.trans (show Kp w9 _ from (by (repeat (first | with_reducible assumption | with_reducible exact Kp.refl _ | with_reducible refine Kp.drew ?_ | with_reducible refine Kp.drewN ?_ _ | with_reducible refine Kp.alloc ?_ _ | ((with_reducible refine Kp.setCell ?_ ?_ _); rotate_left; (focus (first | omega | (simp; done) | (simp; omega)))) | with_reducible refine Kp.trans ?_ (by assumption)))))))) (HNR.out.kp (show Kp w9 _ from (by (repeat (first | with_reducible assumption | with_reducible exact Kp.refl _ | with_reducible refine Kp.drew ?_ | with_reducible refine Kp.drewN ?_ _ | with_reducible refine Kp.alloc ?_ _ | ((with_reducible refine Kp.setCell ?_ ?_ _); rotate_left; (focus (first | omega | (simp; done) | (simp; omega)))) | with_reducible refine Kp.trans ?_ (by assumption)))))) hno HNI.out (by omega) (by omega) HLT.out (HB7.out.kp (kk9.trans (show Kp w9 _ from (by (repeat (first | with_reducible assumption | with_reducible exact Kp.refl _ | with_reducible refine Kp.drew ?_ | with_reducible refine Kp.drewN ?_ _ | with_reducible refine Kp.alloc ?_ _ | ((with_reducible refine Kp.setCell ?_ ?_ _); rotate_left; (focus (first | omega | (simp; done) | (simp; omega)))) | with_reducible refine Kp.trans ?_ (by assumption)))))))).mono ?_; rintro e w10 ⟨rfl, h10, b10⟩; (try dsimp only); have k10 : Kp w1 w10 := b10.kp (k17.trans (kk9.trans (show Kp w9 _ from (by (repeat (first | with_reducible assumption | with_reducible exact Kp.refl _ | with_reducible refine Kp.drew ?_ | with_reducible refine Kp.drewN ?_ _ | with_reducible refine Kp.alloc ?_ _ | ((with_reducible refine Kp.setCell ?_ ?_ _); rotate_left; (focus (first | omega | (simp; done) | (simp; omega)))) | with_reducible refine Kp.trans ?_ (by assumption))))))) hw12; have H10 := Lib.hid h10; clear h10); refine hK.out _ _ ?_ (fun hHd => ?_); (focus ((try dsimp only); exact ⟨itm_conj ((HIB.out.kp (kk9.trans (show Kp w9 _ from (by (repeat (first | with_reducible assumption | with_reducible exact Kp.refl _ | with_reducible refine Kp.drew ?_ | with_reducible refine Kp.drewN ?_ _ | with_reducible refine Kp.alloc ?_ _ | ((with_reducible refine Kp.setCell ?_ ?_ _); rotate_left; (focus (first | omega | (simp; done) | (simp; omega)))) | with_reducible refine Kp.trans ?_ (by assumption))))))).wr (by decide) (by omega) b10), (HA7.out.kp (kk9.trans (show Kp w9 _ from (by (repeat (first | with_reducible assumption | with_reducible exact Kp.refl _ | with_reducible refine Kp.drew ?_ | with_reducible refine Kp.drewN ?_ _ | with_reducible refine Kp.alloc ?_ _ | ((with_reducible refine Kp.setCell ?_ ?_ _); rotate_left; (focus (first | omega | (simp; done) | (simp; omega)))) | with_reducible refine Kp.trans ?_ (by assumption))))))).wr (by decide) (by omega) b10⟩)); clear hK K; (try simp only [Act.put]))
            refine wpAnyH_done (by kernel_rfl) ?_ _
            rotate_left
            all_goals
              (try clear hHd)
              go_wp2_with fail
              go_roundw
              case rel => exact ⟨i + 1, by omega, by go_num, by rw [HIT.out, ← List.append_assoc]; exact H10.out, k10⟩
              case measure => simp [intOf]; omega
          · obtain rfl : i = n := by omega
            have j2 : decide ((i : Int) < (i : Int)) = false := decide_eq_false (by omega)
            go_wp2_with fail
            refine (getString B B _ _ YB.out).mono ?_
            rintro e w2 ⟨rfl, b2⟩
            have k2' : Kp w w2 := Below.trans (kw1.trans yk) (Below.mono b2 HWB.out)
            go_wp2_with fail
            exact bodyPost_ret (v := .tuple #[sv (T ++ itemsN D i), .bool true]) (by simp [results, Tryz.results10, go_sem]) rfl ⟨by rw [HT.out], k2'⟩
end Go.Proofs.YtaekeogaakogbaaGreatDoor
namespace Go.Proofs.YtaekeogaakogbaaGreatDoor

open Go.ChangeShapes Go.WideShapes Go.ChangeAt Go.RowKit Go.Shelf

/-- Lines as a text. -/
def textL (ls : List (List UInt8)) : List UInt8 := ls.flatMap fun l => l ++ [10]
theorem textL_app (a b : List (List UInt8)) : textL (a ++ b) = textL a ++ textL b := List.flatMap_append ..
theorem textL_one (l : List UInt8) : textL [l] = l ++ [10] := by simp [textL]
/-- Lines, one after another. -/
def runL (st : JobD × Nat) : List (List UInt8) → Option (JobD × Nat)
  | [] => some st
  | l :: r => (takeJ st l).bind fun st' => runL st' r
theorem runL_app (st : JobD × Nat) : ∀ (a b : List (List UInt8)), runL st (a ++ b) = (runL st a).bind fun st' => runL st' b
  | [], b => rfl
  | l :: r, b => by
    show (takeJ st l).bind (fun st' => runL st' (r ++ b)) = ((takeJ st l).bind fun st' => runL st' r).bind _
    rcases takeJ st l with _ | st'
    · rfl
    · exact runL_app st' r b
theorem runL_one (st : JobD × Nat) (l : List UInt8) : runL st [l] = takeJ st l := by
  show (takeJ st l).bind (fun st' => some st') = _
  rcases takeJ st l with _ | st' <;> rfl
theorem rest_text : ∀ (ls : List (List UInt8)) (_ : ∀ l, l ∈ ls → (10 : UInt8) ∉ l) (k : Nat), k ≤ ls.length → restK (textL ls) k = textL (ls.drop k)
  | ls, h, 0, _ => by simp [restK]
  | ls, h, k + 1, hk => by
    show (Lib.cut (restK (textL ls) k) [10]).2.1 = _
    rw [rest_text ls h k (by omega), List.drop_eq_getElem_cons (by omega)]
    show (Lib.cut ((ls[k] ++ [10]) ++ textL (ls.drop (k + 1))) [10]).2.1 = _
    rw [List.append_assoc, List.singleton_append, cut10_at _ _ (h _ (List.getElem_mem _))]
theorem line_text (ls : List (List UInt8)) (h : ∀ l, l ∈ ls → (10 : UInt8) ∉ l) {k : Nat} {l : List UInt8} (hl : ls[k]? = some l) : lineK (textL ls) k = l ∧ restK (textL ls) k ≠ [] ∧ (Lib.cut (restK (textL ls) k) [10]).2.2 = true := by
  obtain ⟨hk, e⟩ := List.getElem?_eq_some_iff.1 hl
  unfold lineK
  rw [rest_text ls h k (by omega), List.drop_eq_getElem_cons hk, e]
  show (Lib.cut ((l ++ [10]) ++ textL (ls.drop (k + 1))) [10]).1 = _ ∧ (l ++ [10]) ++ textL (ls.drop (k + 1)) ≠ [] ∧ (Lib.cut ((l ++ [10]) ++ textL (ls.drop (k + 1))) [10]).2.2 = _
  rw [List.append_assoc, List.singleton_append, cut10_at _ _ (h _ (List.mem_of_getElem? hl))]
  exact ⟨rfl, by simp, rfl⟩
theorem st_text (ls : List (List UInt8)) (h : ∀ l, l ∈ ls → (10 : UInt8) ∉ l) : ∀ k, k ≤ ls.length → stK (textL ls) k = runL (job0, 0) (ls.take k)
  | 0, _ => rfl
  | k + 1, hk => by
    obtain ⟨l, hl⟩ : ∃ l, ls[k]? = some l := ⟨ls[k], List.getElem?_eq_getElem (by omega)⟩
    show (stK (textL ls) k).bind (fun st => takeJ st (lineK (textL ls) k)) = _
    rw [st_text ls h k (by omega), (line_text ls h hl).1, List.take_add_one, hl, runL_app]
    congr 1
    funext st
    exact (runL_one st l).symm
theorem runL_take {st : JobD × Nat} : ∀ {ls : List (List UInt8)} {st' : JobD × Nat}, runL st ls = some st' → ∀ k, (runL st (ls.take k)).isSome = true := fun {ls st'} h k => by
  have : runL st (ls.take k ++ ls.drop k) = some st' := by rw [List.take_append_drop]; exact h
  rw [runL_app] at this
  rcases hr : runL st (ls.take k) with _ | _
  · rw [hr] at this; cases this
  · rfl
/-- What lines that can stand are read as. -/
theorem text_good {ls : List (List UInt8)} (h : ∀ l, l ∈ ls → (10 : UInt8) ∉ l) {j : JobD} {n : Nat} (hr : runL (job0, 0) ls = some (j, n)) :
    (∀ k, k < ls.length → Good (textL ls) k) ∧ ¬ Good (textL ls) ls.length ∧ restK (textL ls) ls.length = [] ∧ stK (textL ls) ls.length = some (j, n) := by
  have hre : restK (textL ls) ls.length = [] := by rw [rest_text ls h _ (Nat.le_refl _), List.drop_length]; rfl
  refine ⟨fun k hk => ?_, fun hg => hg.1 hre, hre, by rw [st_text ls h _ (Nat.le_refl _), List.take_length]; exact hr⟩
  obtain ⟨l, hl⟩ : ∃ l, ls[k]? = some l := ⟨ls[k], List.getElem?_eq_getElem hk⟩
  obtain ⟨h1, h2, h3⟩ := line_text ls h hl
  exact ⟨h2, h3, by rw [st_text ls h _ (by omega)]; exact runL_take hr _⟩
theorem no10_itoa (v : Int) : (10 : UInt8) ∉ Lib.itoa v := by
  have dd : ∀ u : Nat, (10 : UInt8) ∉ Lib.decDigits u := by
    intro u
    induction u using Nat.strongRecOn with
    | _ u ih =>
      have dg : ∀ d : Nat, d < 10 → (10 : UInt8) ≠ UInt8.ofNat (48 + d) := by decide
      rw [Lib.decDigits]
      by_cases hu : u < 10
      · rw [dif_pos hu, List.mem_singleton]
        exact dg u hu
      · rw [dif_neg hu]
        intro hm
        rcases List.mem_append.1 hm with hm | hm
        · exact ih (u / 10) (by omega) hm
        · rw [List.mem_singleton] at hm
          exact dg (u % 10) (Nat.mod_lt _ (by decide)) hm
  unfold Lib.itoa
  split
  · intro hm
    rcases List.mem_cons.1 hm with hm | hm
    · exact absurd hm (by decide)
    · exact dd _ hm
  · exact dd _
theorem no10_line {wd : List UInt8} (hw : (10 : UInt8) ∉ wd) (ns : List Int) : (10 : UInt8) ∉ lineL wd ns := by
  unfold lineL
  intro hm
  rcases List.mem_append.1 hm with hm | hm
  · exact hw hm
  · obtain ⟨n, _, hn⟩ := List.mem_flatMap.1 hm
    unfold numL at hn
    rcases List.mem_cons.1 hn with hn | hn
    · exact absurd hn (by decide)
    · exact no10_itoa n hn
/- The lines of a job. -/
def headLs (g : List Int) : Nat → List (List UInt8)
  | 0 => []
  | i + 1 => headLs g i ++ (if g.getD i 0 = 0 then [] else [lineL (gwAt i) [g.getD i 0]])
def balLs (b : Bool) : List (List UInt8) := if b = true then [lineL wBal []] else []
def itemLs (j : JobD) : Nat → List (List UInt8)
  | 0 => []
  | i + 1 => itemLs j i ++ (match j.items[i]? with | some y => [lineL (kindW.getD (y.k - 1).toNat []) (numsJ j y)] | none => [])
def linesJ (j : JobD) : List (List UInt8) := headLs j.g 18 ++ (balLs j.bal ++ itemLs j j.items.length)
theorem head_text (g : List Int) : ∀ i, textL (headLs g i) = headN g i
  | 0 => rfl
  | i + 1 => by
    unfold headLs headN
    rw [textL_app, head_text g i]
    split
    · rfl
    · rw [textL_one]
theorem item_text (j : JobD) : ∀ i, textL (itemLs j i) = itemsN j i
  | 0 => rfl
  | i + 1 => by
    unfold itemLs itemsN
    rw [textL_app, item_text j i]
    rcases j.items[i]? with _ | y
    · rfl
    · show _ ++ textL [_] = _
      rw [textL_one]; rfl
theorem text_lines (j : JobD) : textL (linesJ j) = writeJ j := by
  unfold linesJ writeJ
  rw [textL_app, textL_app, head_text, item_text]
  congr 2
  unfold balLs balT
  split
  · rw [textL_one]
  · rfl
theorem gw_clean {i : Nat} (hi : i < 18) : (10 : UInt8) ∉ gwAt i ∧ (32 : UInt8) ∉ gwAt i ∧ isVerb (gwAt i) = false ∧ gwAt i ≠ wBal ∧ gi (gwAt i) = some i := by
  rcases cases18 hi with rfl | rfl | rfl | rfl | rfl | rfl | rfl | rfl | rfl | rfl | rfl | rfl | rfl | rfl | rfl | rfl | rfl | rfl <;> decide
theorem kind_clean (q : Nat) : (10 : UInt8) ∉ kindW.getD q [] ∧ (32 : UInt8) ∉ kindW.getD q [] := by
  rcases q with _ | _ | _ | _ | _ | _ | _ | q
  all_goals (first | decide | (unfold kindW; simp))
theorem lines_no10 (j : JobD) : ∀ l, l ∈ linesJ j → (10 : UInt8) ∉ l := by
  have h1 : ∀ i, i ≤ 18 → ∀ l, l ∈ headLs j.g i → (10 : UInt8) ∉ l := by
    intro i
    induction i with
    | zero => intro _ l hl; cases hl
    | succ i ih =>
      intro hi l hl
      unfold headLs at hl
      rcases List.mem_append.1 hl with hl | hl
      · exact ih (by omega) l hl
      · split at hl
        · cases hl
        · rw [List.mem_singleton] at hl; rw [hl]
          exact no10_line (gw_clean (by omega)).1 _
  have h2 : ∀ i, ∀ l, l ∈ itemLs j i → (10 : UInt8) ∉ l := by
    intro i
    induction i with
    | zero => intro l hl; cases hl
    | succ i ih =>
      intro l hl
      unfold itemLs at hl
      rcases List.mem_append.1 hl with hl | hl
      · exact ih l hl
      · split at hl
        · rw [List.mem_singleton] at hl; rw [hl]
          exact no10_line (kind_clean _).1 _
        · cases hl
  intro l hl
  unfold linesJ at hl
  rcases List.mem_append.1 hl with hl | hl
  · exact h1 18 (Nat.le_refl _) l hl
  · rcases List.mem_append.1 hl with hl | hl
    · unfold balLs at hl
      split at hl
      · rw [List.mem_singleton] at hl; rw [hl]; exact no10_line (by decide) _
      · cases hl
    · exact h2 _ l hl
theorem takeJ_head {j : JobD} {nx i : Nat} (hi : i < 18) (hn : nx ≤ i) {n : Int} (h0 : n ≠ 0) (hI : I64 n) : takeJ (j, nx) (lineL (gwAt i) [n]) = some ({ j with g := j.g.set i n }, i + 1) := by
  obtain ⟨_, h32, hv, hb, hg⟩ := gw_clean hi
  unfold takeJ
  rw [parseP_line h32 (fun m hm => by rw [List.mem_singleton] at hm; rw [hm]; exact hI)]
  simp only [hv, Bool.false_eq_true, if_false]
  unfold headJ
  rw [if_neg hb, hg]
  simp only
  rw [if_neg (by omega), if_neg h0]
/-- The heads' lines. -/
theorem run_heads (g : List Int) (hI : ∀ n, n ∈ g → I64 n) (hl : g.length = 18) : ∀ i, i ≤ 18 → ∃ h nx, runL (job0, 0) (headLs g i) = some (⟨h, false, [], [], []⟩, nx) ∧ nx ≤ i ∧ h.length = 18 ∧ ∀ k, k < 18 → h[k]? = some (if k < i then g.getD k 0 else 0)
  | 0, _ => ⟨List.replicate 18 0, 0, rfl, Nat.le_refl _, by simp, fun k hk => by
      rw [if_neg (by omega), List.getElem?_replicate, if_pos hk]⟩
  | i + 1, hi => by
    obtain ⟨h, nx, h1, h2, h3, h4⟩ := run_heads g hI hl i (by omega)
    unfold headLs
    rw [runL_app, h1, Option.bind_some]
    have hgi : g[i]? = some (g.getD i 0) := by
      rw [List.getD_eq_getElem?_getD, List.getElem?_eq_getElem (by omega)]; rfl
    by_cases hz : g.getD i 0 = 0
    · rw [if_pos hz]
      refine ⟨h, nx, rfl, by omega, h3, fun k hk => ?_⟩
      rw [h4 k hk]
      by_cases e : k = i
      · subst e; rw [if_neg (Nat.lt_irrefl _), if_pos (by omega), hz]
      · by_cases e2 : k < i
        · rw [if_pos e2, if_pos (by omega)]
        · rw [if_neg e2, if_neg (by omega)]
    · rw [if_neg hz, runL_one, takeJ_head (by omega) h2 hz (hI _ (List.mem_of_getElem? hgi))]
      refine ⟨h.set i (g.getD i 0), i + 1, rfl, Nat.le_refl _, by rw [List.length_set]; exact h3, fun k hk => ?_⟩
      by_cases e : k = i
      · subst e; rw [List.getElem?_set_self (by omega), if_pos (by omega)]
      · rw [List.getElem?_set_ne (fun e' => e e'.symm), h4 k hk]
        by_cases e2 : k < i
        · rw [if_pos e2, if_pos (by omega)]
        · rw [if_neg e2, if_neg (by omega)]
theorem run_head (g : List Int) (hI : ∀ n, n ∈ g → I64 n) (hl : g.length = 18) (b : Bool) : ∃ nx, runL (job0, 0) (headLs g 18 ++ balLs b) = some (⟨g, b, [], [], []⟩, nx) := by
  obtain ⟨h, nx, h1, h2, h3, h4⟩ := run_heads g hI hl 18 (Nat.le_refl _)
  have e : h = g := by
    refine List.ext_getElem? fun k => ?_
    by_cases hk : k < 18
    · rw [h4 k hk, if_pos hk, List.getD_eq_getElem?_getD, List.getElem?_eq_getElem (by omega)]; rfl
    · rw [List.getElem?_eq_none (by omega), List.getElem?_eq_none (by omega)]
  subst e
  rw [runL_app, h1, Option.bind_some]
  rcases b with _ | _
  · exact ⟨nx, rfl⟩
  · refine ⟨19, ?_⟩
    show runL _ [lineL wBal []] = _
    rw [runL_one]
    unfold takeJ
    rw [parseP_line (by decide) (fun n hn => by cases hn)]
    simp only [show isVerb wBal = false by decide, Bool.false_eq_true, if_false]
    unfold headJ
    rw [if_pos rfl, if_pos ⟨by omega, rfl⟩]
end Go.Proofs.YtaekeogaakogbaaGreatDoor
namespace Go.Proofs.YtaekeogaakogbaaGreatDoor

open Go.ChangeShapes Go.WideShapes Go.ChangeAt Go.RowKit Go.Shelf

theorem ancI_step {K : Int} {l : List Itm} {i c : Nat} {y : Itm} (h : ancI K l i = some c) (hy : l[i]? = some y) : ancI K l (i + 1) = if y.k = K then (if y.n = (c : Int) then some (c + 1) else none) else some c := by
  show (ancI K l i).bind _ = _
  rw [h, Option.bind_some, hy]
theorem ancI_some {K : Int} {l : List Itm} {i m n : Nat} (h : ancI K l n = some m) (hi : i ≤ n) : ∃ c, ancI K l i = some c := by
  rcases hc : ancI K l i with _ | c
  · have := ancI_none hc (n - i)
    rw [Nat.add_sub_cancel' hi, h] at this
    cases this
  · exact ⟨c, rfl⟩
theorem weave_eo {ls ps : List Int} (h : ls.length = ps.length + 1) : ∀ i, 1 ≤ i → i ≤ ls.length → evens (wvN ls ps i) = ls.take i ∧ odds (wvN ls ps i) = ps.take (i - 1) ∧ (wvN ls ps i).length = 2 * i - 1
  | 0, h1, _ => by omega
  | 1, _, h2 => by
    have e : wvN ls ps 1 = [ls.getD 0 0] := rfl
    have e2 : ls.take 1 = [ls.getD 0 0] := by
      rw [List.take_add_one, List.take_zero, List.getD_eq_getElem?_getD, List.getElem?_eq_getElem (by omega)]; rfl
    rw [e, e2]
    exact ⟨rfl, by simp [odds], rfl⟩
  | i + 2, _, h2 => by
    obtain ⟨h3, h4, h5⟩ := weave_eo h (i + 1) (by omega) (by omega)
    have e : wvN ls ps (i + 2) = (wvN ls ps (i + 1) ++ [ps.getD i 0]) ++ [ls.getD (i + 1) 0] := by
      conv => lhs; unfold wvN
      rw [if_neg (by omega), Nat.add_sub_cancel]
    obtain ⟨e1, e2⟩ := (evens_snoc (wvN ls ps (i + 1)) (ps.getD i 0)).2 (by omega)
    obtain ⟨e3, e4⟩ := (evens_snoc (wvN ls ps (i + 1) ++ [ps.getD i 0]) (ls.getD (i + 1) 0)).1 (by rw [List.length_append, h5, List.length_singleton]; omega)
    rw [e, e3, e4, e1, e2, h3, h4]
    refine ⟨?_, ?_, ?_⟩
    · rw [show i + 2 = (i + 1) + 1 by omega, List.take_add_one (i := i + 1), List.getElem?_eq_getElem (by omega), List.getD_eq_getElem?_getD, List.getElem?_eq_getElem (by omega)]; rfl
    · show ps.take (i + 1 - 1) ++ _ = ps.take (i + 2 - 1)
      rw [show i + 1 - 1 = i by omega, show i + 2 - 1 = i + 1 by omega, List.take_add_one, List.getElem?_eq_getElem (by omega), List.getD_eq_getElem?_getD, List.getElem?_eq_getElem (by omega)]; rfl
    · rw [List.length_append, List.length_append, h5, List.length_singleton, List.length_singleton]; omega
theorem weave_note {d : NtD} (h : noteI d = true) : evens (weave d) = d.lines ∧ odds (weave d) = d.pens ∧ (weave d).length % 2 = 1 := by
  unfold noteI at h
  simp only [Bool.and_eq_true, beq_iff_eq, decide_eq_true_eq] at h
  obtain ⟨h1, h2, h3⟩ := weave_eo h.2 d.lines.length h.1 (Nat.le_refl _)
  unfold weave
  rw [h1, h2, h3, List.take_length]
  refine ⟨rfl, ?_, by omega⟩
  rw [List.take_of_length_le (by omega)]
theorem itm_eta {y : Itm} {a b c d e f g : Int} (h0 : y.k = a) (h1 : y.h = b) (h2 : y.f = c) (h3 : y.s = d) (h4 : y.o = e) (h5 : y.r = f) (h6 : y.n = g) : y = ⟨a, b, c, d, e, f, g⟩ := by
  obtain ⟨y0, y1, y2, y3, y4, y5, y6⟩ := y
  simp only at h0 h1 h2 h3 h4 h5 h6
  subst h0; subst h1; subst h2; subst h3; subst h4; subst h5; subst h6
  rfl
/-- One item's line, on the job as far as it has been read. -/
theorem add_item {j : JobD} {y : Itm} (hb : bareI y = true) {c5 c6 : Nat} (its : List Itm) (h5 : y.k = 5 → y.n = (c5 : Int) ∧ ∃ d, j.notes[c5]? = some d ∧ noteI d = true) (h6 : y.k = 6 → y.n = (c6 : Int) ∧ ∃ d, j.floats[c6]? = some d) (hc5 : c5 ≤ j.notes.length) (hc6 : c6 ≤ j.floats.length) :
    isVerb (kindW.getD (y.k - 1).toNat []) = true ∧ addJ ⟨j.g, j.bal, its, j.notes.take c5, j.floats.take c6⟩ (kindW.getD (y.k - 1).toNat []) (numsJ j y) = some ⟨j.g, j.bal, its ++ [y], j.notes.take (if y.k = 5 then c5 + 1 else c5), j.floats.take (if y.k = 6 then c6 + 1 else c6)⟩ := by
  unfold bareI at hb
  by_cases k1 : y.k = 1
  · rw [if_pos k1] at hb
    simp only [Bool.and_eq_true, beq_iff_eq] at hb
    obtain ⟨b1, b2, b3, b4⟩ := hb
    have e := itm_eta k1 rfl rfl b1 b2 b3 b4
    rw [k1]
    refine ⟨by decide, ?_⟩
    unfold numsJ
    rw [if_pos k1]
    show addJ _ kBox [y.h, y.f] = _
    unfold addJ
    rw [if_pos rfl, if_neg (by omega), if_neg (by omega)]
    simp only
    rw [← e]
  · rw [if_neg k1] at hb
    by_cases k2 : y.k = 2
    · rw [if_pos k2] at hb
      simp only [Bool.and_eq_true, beq_iff_eq] at hb
      obtain ⟨b1, b2⟩ := hb
      have e := itm_eta k2 rfl b1 rfl rfl rfl b2
      rw [k2]
      refine ⟨by decide, ?_⟩
      unfold numsJ
      rw [if_neg k1, if_pos k2]
      show addJ _ kGlue [y.h, y.s, y.o, y.r] = _
      unfold addJ
      rw [if_neg (by decide), if_pos rfl, if_neg (by omega), if_neg (by omega)]
      simp only
      rw [← e]
    · rw [if_neg k2] at hb
      by_cases k7 : y.k = 7
      · rw [if_neg (by omega), if_pos k7] at hb
        simp only [Bool.and_eq_true, beq_iff_eq] at hb
        obtain ⟨b1, b2, b3, b4, b5, b6⟩ := hb
        have e := itm_eta k7 b1 b2 b3 b4 b5 b6
        rw [k7]
        refine ⟨by decide, ?_⟩
        unfold numsJ
        rw [if_neg k1, if_neg k2, if_neg (by omega), if_neg (by omega), if_pos k7]
        show addJ _ kBar [] = _
        unfold addJ
        rw [if_neg (by decide), if_neg (by decide), if_neg (by decide), if_neg (by decide), if_neg (by decide), if_neg (by decide), if_pos rfl, if_neg (by omega), if_neg (by omega)]
        simp only
        rw [← e]
      · by_cases km : y.k = 3 ∨ y.k = 4 ∨ y.k = 5 ∨ y.k = 6
        · rw [if_pos km] at hb
          simp only [Bool.and_eq_true, beq_iff_eq] at hb
          obtain ⟨b1, b2, b3, b4, b5⟩ := hb
          rcases km with k3 | k4 | k5 | k6
          · have e := itm_eta k3 b1 b2 b3 b4 b5 rfl
            rw [k3]
            refine ⟨by decide, ?_⟩
            unfold numsJ
            rw [if_neg k1, if_neg k2, if_neg (by omega), if_neg (by omega), if_neg k7]
            show addJ _ kPen [y.n] = _
            unfold addJ
            rw [if_neg (by decide), if_neg (by decide), if_pos rfl, if_neg (by omega), if_neg (by omega)]
            simp only
            rw [← e]
          · have e := itm_eta k4 b1 b2 b3 b4 b5 rfl
            rw [k4]
            refine ⟨by decide, ?_⟩
            unfold numsJ
            rw [if_neg k1, if_neg k2, if_neg (by omega), if_neg (by omega), if_neg k7]
            show addJ _ kMark [y.n] = _
            unfold addJ
            rw [if_neg (by decide), if_neg (by decide), if_neg (by decide), if_pos rfl, if_neg (by omega), if_neg (by omega)]
            simp only
            rw [← e]
          · obtain ⟨hn, d, hd, hdn⟩ := h5 k5
            have e := itm_eta k5 b1 b2 b3 b4 b5 hn
            obtain ⟨w1, w2, w3⟩ := weave_note hdn
            have hlt := (List.getElem?_eq_some_iff.1 hd).1
            rw [k5]
            refine ⟨by decide, ?_⟩
            unfold numsJ
            rw [if_neg k1, if_neg k2, if_pos k5, hn, Int.toNat_natCast, hd]
            show addJ _ kNote (weave d) = _
            unfold addJ
            rw [if_neg (by decide), if_neg (by decide), if_neg (by decide), if_neg (by decide), if_pos rfl, if_neg (by omega), if_pos rfl, if_neg (by omega), w1, w2]
            simp only
            rw [List.take_add_one, hd, List.length_take, Nat.min_eq_left (by omega), ← e]
            rfl
          · obtain ⟨hn, d, hd⟩ := h6 k6
            have e := itm_eta k6 b1 b2 b3 b4 b5 hn
            have hlt := (List.getElem?_eq_some_iff.1 hd).1
            rw [k6]
            refine ⟨by decide, ?_⟩
            unfold numsJ
            rw [if_neg k1, if_neg k2, if_neg (by omega), if_pos k6, hn, Int.toNat_natCast, hd]
            show addJ _ kFloat [d.c, d.h, d.w] = _
            unfold addJ
            rw [if_neg (by decide), if_neg (by decide), if_neg (by decide), if_neg (by decide), if_neg (by decide), if_pos rfl, if_neg (by omega), if_pos rfl]
            simp only
            rw [List.take_add_one, hd, List.length_take, Nat.min_eq_left (by omega), ← e]
            rfl
        · rw [if_neg km, if_neg k7] at hb
          cases hb
theorem run_items {j : JobD} (hR : rightJ j = true) (hN : NumsOk j) (nx : Nat) : ∀ i, i ≤ j.items.length → ∃ c5 c6 nx', ancI 5 j.items i = some c5 ∧ ancI 6 j.items i = some c6 ∧ runL (⟨j.g, j.bal, [], [], []⟩, nx) (itemLs j i) = some (⟨j.g, j.bal, j.items.take i, j.notes.take c5, j.floats.take c6⟩, nx')
  | 0, _ => ⟨0, 0, nx, rfl, rfl, rfl⟩
  | i + 1, hi => by
    obtain ⟨c5, c6, nx', h5, h6, hr⟩ := run_items hR hN nx i (by omega)
    unfold rightJ at hR
    simp only [Bool.and_eq_true, beq_iff_eq] at hR
    obtain ⟨⟨hb, hno⟩, hA5, hA6⟩ := hR
    obtain ⟨y, hy⟩ : ∃ y, j.items[i]? = some y := ⟨_, List.getElem?_eq_getElem (by omega)⟩
    have hm := List.mem_of_getElem? hy
    have hby := (List.all_eq_true.1 hb) y hm
    obtain ⟨d5, hd5⟩ := ancI_some (i := i + 1) hA5 (by omega)
    obtain ⟨d6, hd6⟩ := ancI_some (i := i + 1) hA6 (by omega)
    have s5 := ancI_step h5 hy
    have s6 := ancI_step h6 hy
    have q5 : y.k = 5 → y.n = (c5 : Int) := fun e => by
      rw [if_pos e, hd5] at s5
      split at s5
      · assumption
      · cases s5
    have q6 : y.k = 6 → y.n = (c6 : Int) := fun e => by
      rw [if_pos e, hd6] at s6
      split at s6
      · assumption
      · cases s6
    have m5 : c5 ≤ j.notes.length ∧ (y.k = 5 → c5 < j.notes.length) := by
      have g1 : ∀ {i m n c : Nat}, ancI 5 j.items n = some m → i ≤ n → ancI 5 j.items i = some c → c ≤ m := fun {i m n c} hm hle hc => by
        induction n generalizing m with
        | zero => obtain rfl : i = 0 := by omega
                  rw [hc] at hm; cases hm; exact Nat.le_refl _
        | succ n ih =>
          by_cases e : i = n + 1
          · subst e; rw [hc] at hm; cases hm; exact Nat.le_refl _
          · obtain ⟨m', hm'⟩ := ancI_some hm (Nat.le_succ n)
            have := ih hm' (by omega)
            rcases hx : j.items[n]? with _ | x
            · have : ancI 5 j.items (n + 1) = some m' := by
                show (ancI 5 j.items n).bind _ = _
                rw [hm', Option.bind_some, hx]
              rw [hm] at this; cases this; omega
            · have s := ancI_step hm' hx
              rw [hm] at s
              split at s
              · split at s
                · cases s; omega
                · cases s
              · cases s; omega
      refine ⟨g1 hA5 (by omega) h5, fun e => ?_⟩
      have := g1 hA5 hi hd5
      rw [if_pos e, if_pos (q5 e), hd5] at s5
      cases s5
      omega
    have m6 : c6 ≤ j.floats.length ∧ (y.k = 6 → c6 < j.floats.length) := by
      have g1 : ∀ {i m n c : Nat}, ancI 6 j.items n = some m → i ≤ n → ancI 6 j.items i = some c → c ≤ m := fun {i m n c} hm hle hc => by
        induction n generalizing m with
        | zero => obtain rfl : i = 0 := by omega
                  rw [hc] at hm; cases hm; exact Nat.le_refl _
        | succ n ih =>
          by_cases e : i = n + 1
          · subst e; rw [hc] at hm; cases hm; exact Nat.le_refl _
          · obtain ⟨m', hm'⟩ := ancI_some hm (Nat.le_succ n)
            have := ih hm' (by omega)
            rcases hx : j.items[n]? with _ | x
            · have : ancI 6 j.items (n + 1) = some m' := by
                show (ancI 6 j.items n).bind _ = _
                rw [hm', Option.bind_some, hx]
              rw [hm] at this; cases this; omega
            · have s := ancI_step hm' hx
              rw [hm] at s
              split at s
              · split at s
                · cases s; omega
                · cases s
              · cases s; omega
      refine ⟨g1 hA6 (by omega) h6, fun e => ?_⟩
      have := g1 hA6 hi hd6
      rw [if_pos e, if_pos (q6 e), hd6] at s6
      cases s6
      omega
    obtain ⟨hv, ha⟩ := add_item (j := j) hby (c5 := c5) (c6 := c6) (j.items.take i) (fun e => ⟨q5 e, _, List.getElem?_eq_getElem (m5.2 e), (List.all_eq_true.1 hno) _ (List.getElem_mem _)⟩) (fun e => ⟨q6 e, _, List.getElem?_eq_getElem (m6.2 e)⟩) m5.1 m6.1
    refine ⟨if y.k = 5 then c5 + 1 else c5, if y.k = 6 then c6 + 1 else c6, 20, ?_, ?_, ?_⟩
    · rw [s5]
      by_cases e : y.k = 5
      · rw [if_pos e, if_pos (q5 e), if_pos e]
      · rw [if_neg e, if_neg e]
    · rw [s6]
      by_cases e : y.k = 6
      · rw [if_pos e, if_pos (q6 e), if_pos e]
      · rw [if_neg e, if_neg e]
    · have el : itemLs j (i + 1) = itemLs j i ++ [lineL (kindW.getD (y.k - 1).toNat []) (numsJ j y)] := by
        show itemLs j i ++ (match j.items[i]? with | some y => [lineL (kindW.getD (y.k - 1).toNat []) (numsJ j y)] | none => []) = _
        rw [hy]
      rw [el, runL_app, hr, Option.bind_some, runL_one]
      unfold takeJ
      rw [parseP_line (kind_clean _).2 (hN y hm).2]
      simp only [hv, if_true]
      rw [ha, List.take_add_one (i := i) (l := j.items), hy]
      rfl
/-- A job that has a text is read back from it. -/
theorem text_back {j : JobD} (hR : rightJ j = true) (hok : j.ok) (hN : NumsOk j) : ∃ nx, runL (job0, 0) (linesJ j) = some (j, nx) := by
  obtain ⟨nx, h1⟩ := run_head j.g hok.g hok.len j.bal
  obtain ⟨c5, c6, nx', h5, h6, h2⟩ := run_items hR hN nx j.items.length (Nat.le_refl _)
  have hR2 := hR
  unfold rightJ at hR2
  simp only [Bool.and_eq_true, beq_iff_eq] at hR2
  obtain ⟨_, hA5, hA6⟩ := hR2
  rw [hA5] at h5; rw [hA6] at h6
  cases h5; cases h6
  rw [List.take_length, List.take_length, List.take_length] at h2
  refine ⟨nx', ?_⟩
  unfold linesJ
  rw [← List.append_assoc, runL_app, h1, Option.bind_some]
  exact h2
end Go.Proofs.YtaekeogaakogbaaGreatDoor
namespace Go.Proofs.YtaekeogaakogbaaGreatDoor

open Go.ChangeShapes Go.WideShapes Go.ChangeAt Go.RowKit Go.Shelf

theorem wvN_congr {ls ls' ps ps' : List Int} : ∀ i, (∀ k, k < i → ls.getD k 0 = ls'.getD k 0) → (∀ k, k + 1 < i → ps.getD k 0 = ps'.getD k 0) → wvN ls ps i = wvN ls' ps' i
  | 0, _, _ => rfl
  | i + 1, h1, h2 => by
    unfold wvN
    rw [wvN_congr i (fun k hk => h1 k (by omega)) (fun k hk => h2 k (by omega)), h1 i (by omega)]
    by_cases e : i = 0
    · rw [if_pos e, if_pos e]
    · rw [if_neg e, if_neg e, h2 (i - 1) (by omega)]
theorem getD_app {l : List Int} {x : Int} {k : Nat} (h : k < l.length) : (l ++ [x]).getD k 0 = l.getD k 0 := by
  rw [List.getD_eq_getElem?_getD, List.getD_eq_getElem?_getD, List.getElem?_append_left h]
theorem getD_last {l : List Int} {x : Int} : (l ++ [x]).getD l.length 0 = x := by
  rw [List.getD_eq_getElem?_getD, List.getElem?_append_right (Nat.le_refl _), Nat.sub_self]; rfl
theorem eo_len : ∀ (m : Nat) (ns : List Int), ns.length = 2 * m + 1 → (evens ns).length = m + 1 ∧ (odds ns).length = m ∧ wvN (evens ns) (odds ns) (m + 1) = ns
  | 0, ns, h => by
    obtain ⟨x, rfl⟩ := List.length_eq_one_iff.1 h
    exact ⟨rfl, rfl, rfl⟩
  | m + 1, ns, h => by
    obtain ⟨q1, l, rfl⟩ : ∃ q l, ns = q ++ [l] := by
      rcases List.eq_nil_or_concat ns with e | ⟨q, l, e⟩
      · rw [e] at h; simp at h
      · exact ⟨q, l, by rw [e, List.concat_eq_append]⟩
    rw [List.length_append, List.length_singleton] at h
    obtain ⟨q, p, rfl⟩ : ∃ q p, q1 = q ++ [p] := by
      rcases List.eq_nil_or_concat q1 with e | ⟨q, l, e⟩
      · rw [e] at h; simp at h
      · exact ⟨q, l, by rw [e, List.concat_eq_append]⟩
    rw [List.length_append, List.length_singleton] at h
    obtain ⟨h1, h2, h3⟩ := eo_len m q (by omega)
    obtain ⟨e1, e2⟩ := (evens_snoc q p).2 (by omega)
    obtain ⟨e3, e4⟩ := (evens_snoc (q ++ [p]) l).1 (by rw [List.length_append, List.length_singleton]; omega)
    rw [e3, e4, e1, e2]
    refine ⟨by rw [List.length_append, h1]; rfl, by rw [List.length_append, h2]; rfl, ?_⟩
    have e : wvN (evens q ++ [l]) (odds q ++ [p]) (m + 1) = q := by
      rw [← h3]
      exact wvN_congr (m + 1) (fun k hk => by rw [h3]; exact getD_app (by omega)) (fun k hk => by rw [h3]; exact getD_app (by omega))
    show (wvN (evens q ++ [l]) (odds q ++ [p]) (m + 1) ++ (if m + 1 = 0 then [] else [(odds q ++ [p]).getD (m + 1 - 1) 0])) ++ [(evens q ++ [l]).getD (m + 1) 0] = _
    rw [e, if_neg (by omega), Nat.add_sub_cancel]
    have g1 : (odds q ++ [p]).getD m 0 = p := by have := getD_last (l := odds q) (x := p); rw [h2] at this; exact this
    have g2 : (evens q ++ [l]).getD (m + 1) 0 = l := by have := getD_last (l := evens q) (x := l); rw [h1] at this; exact this
    rw [g1, g2]
theorem weave_eo2 {ns : List Int} (h : ns.length % 2 = 1) : weave ⟨evens ns, odds ns⟩ = ns ∧ noteI ⟨evens ns, odds ns⟩ = true := by
  obtain ⟨h1, h2, h3⟩ := eo_len (ns.length / 2) ns (by omega)
  unfold weave noteI
  simp only [h1, h2]
  refine ⟨h3, ?_⟩
  simp
theorem ancI_app {K : Int} {l : List Itm} {y : Itm} : ∀ i, i ≤ l.length → ancI K (l ++ [y]) i = ancI K l i
  | 0, _ => rfl
  | i + 1, h => by
    show (ancI K (l ++ [y]) i).bind _ = (ancI K l i).bind _
    rw [ancI_app i (by omega), List.getElem?_append_left (by omega)]
theorem ancI_snoc {K : Int} {l : List Itm} {y : Itm} {c : Nat} (h : ancI K l l.length = some c) : ancI K (l ++ [y]) (l ++ [y]).length = if y.k = K then (if y.n = (c : Int) then some (c + 1) else none) else some c := by
  rw [List.length_append, List.length_singleton]
  exact ancI_step (by rw [ancI_app _ (Nat.le_refl _)]; exact h) (by rw [List.getElem?_append_right (Nat.le_refl _), Nat.sub_self]; rfl)
theorem headN_zero {g : List Int} {a : Nat} : ∀ b, a ≤ b → (∀ k, a ≤ k → k < b → g.getD k 0 = 0) → headN g b = headN g a
  | 0, h, _ => by obtain rfl : a = 0 := by omega
                  rfl
  | b + 1, h, hz => by
    by_cases e : a = b + 1
    · rw [e]
    · show headN g b ++ (if g.getD b 0 = 0 then [] else lineL (gwAt b) [g.getD b 0] ++ [10]) = _
      rw [if_pos (hz b (by omega) (by omega)), List.append_nil]
      exact headN_zero b (by omega) fun k h1 h2 => hz k h1 (by omega)
theorem headN_congr {g g' : List Int} : ∀ b, (∀ k, k < b → g.getD k 0 = g'.getD k 0) → headN g b = headN g' b
  | 0, _ => rfl
  | b + 1, h => by
    unfold headN
    rw [headN_congr b (fun k hk => h k (by omega)), h b (by omega)]
theorem headN_set {g : List Int} (hl : g.length = 18) {i : Nat} (hi : i < 18) {n : Int} (hn : n ≠ 0) (hz : ∀ k, i ≤ k → k < 18 → g.getD k 0 = 0) : headN (g.set i n) 18 = headN g 18 ++ (lineL (gwAt i) [n] ++ [10]) := by
  have gs : ∀ k, k ≠ i → (g.set i n).getD k 0 = g.getD k 0 := fun k hk => by
    rw [List.getD_eq_getElem?_getD, List.getD_eq_getElem?_getD, List.getElem?_set_ne (fun e => hk e.symm)]
  have gi' : (g.set i n).getD i 0 = n := by
    rw [List.getD_eq_getElem?_getD, List.getElem?_set_self (by omega)]; rfl
  rw [headN_zero (g := g) (a := i) 18 (by omega) hz, headN_zero (g := g.set i n) (a := i + 1) 18 (by omega) (fun k h1 h2 => by rw [gs k (by omega)]; exact hz k (by omega) h2)]
  show headN (g.set i n) i ++ (if (g.set i n).getD i 0 = 0 then [] else lineL (gwAt i) [(g.set i n).getD i 0] ++ [10]) = _
  rw [gi', if_neg hn, headN_congr (g' := g) i (fun k hk => gs k (by omega))]
/-- What holds of a job that is read line by line. -/
structure Inv (j : JobD) (next : Nat) : Prop where
  len : j.g.length = 18
  right : rightJ j = true
  early : next ≤ 19 → j.items = [] ∧ j.notes = [] ∧ j.floats = []
  heads : next ≤ 18 → j.bal = false ∧ ∀ k, next ≤ k → k < 18 → j.g.getD k 0 = 0
theorem inv0 : Inv job0 0 := ⟨rfl, by decide, fun _ => ⟨rfl, rfl, rfl⟩, fun _ => ⟨rfl, fun k _ h => by
  rw [List.getD_eq_getElem?_getD]
  show ((List.replicate 18 (0 : Int))[k]?).getD 0 = 0
  rw [List.getElem?_replicate]; split <;> rfl⟩⟩
theorem right_parts {j : JobD} (h : rightJ j = true) : j.items.all bareI = true ∧ j.notes.all noteI = true ∧ ancI 5 j.items j.items.length = some j.notes.length ∧ ancI 6 j.items j.items.length = some j.floats.length := by
  unfold rightJ at h
  simp only [Bool.and_eq_true, beq_iff_eq] at h
  exact ⟨h.1.1, h.1.2, h.2.1, h.2.2⟩
theorem right_of {j : JobD} (h1 : j.items.all bareI = true) (h2 : j.notes.all noteI = true) (h3 : ancI 5 j.items j.items.length = some j.notes.length) (h4 : ancI 6 j.items j.items.length = some j.floats.length) : rightJ j = true := by
  unfold rightJ
  rw [h1, h2, h3, h4]; simp
/-- The items' text, when a job grows. -/
theorem itemsN_grow {j j' : JobD} (h5 : ancI 5 j.items j.items.length = some j.notes.length) (h6 : ancI 6 j.items j.items.length = some j.floats.length) {y : Itm} (hi : j'.items = j.items ++ [y]) (hn : ∀ k, k < j.notes.length → j'.notes[k]? = j.notes[k]?) (hf : ∀ k, k < j.floats.length → j'.floats[k]? = j.floats[k]?) : ∀ i, i ≤ j.items.length → itemsN j' i = itemsN j i
  | 0, _ => rfl
  | i + 1, h => by
    unfold itemsN
    rw [itemsN_grow h5 h6 hi hn hf i (by omega), hi, List.getElem?_append_left (by omega)]
    obtain ⟨z, hz⟩ : ∃ z, j.items[i]? = some z := ⟨_, List.getElem?_eq_getElem (by omega)⟩
    rw [hz]
    show _ ++ itemT j' z = _ ++ itemT j z
    have e : numsJ j' z = numsJ j z := by
      unfold numsJ
      by_cases k5 : z.k = 5
      · obtain ⟨c, hc, hlt⟩ := ancI_at h5 (k := i) (by omega) hz k5
        rw [if_neg (by omega), if_neg (by omega), if_pos k5, if_neg (by omega), if_neg (by omega), if_pos k5, hc, Int.toNat_natCast, hn c hlt]
      · by_cases k6 : z.k = 6
        · obtain ⟨c, hc, hlt⟩ := ancI_at h6 (k := i) (by omega) hz k6
          rw [if_neg (by omega), if_neg (by omega), if_neg k5, if_pos k6, if_neg (by omega), if_neg (by omega), if_neg k5, if_pos k6, hc, Int.toNat_natCast, hf c hlt]
        · simp only [if_neg k5, if_neg k6]
    unfold itemT
    rw [e]
theorem write_grow {j j' : JobD} (h5 : ancI 5 j.items j.items.length = some j.notes.length) (h6 : ancI 6 j.items j.items.length = some j.floats.length) {y : Itm} (hg : j'.g = j.g) (hb : j'.bal = j.bal) (hi : j'.items = j.items ++ [y]) (hn : ∀ k, k < j.notes.length → j'.notes[k]? = j.notes[k]?) (hf : ∀ k, k < j.floats.length → j'.floats[k]? = j.floats[k]?) : writeJ j' = writeJ j ++ itemT j' y := by
  have e : itemsN j' j'.items.length = itemsN j j.items.length ++ itemT j' y := by
    have e2 : j'.items.length = j.items.length + 1 := by rw [hi]; simp
    rw [e2]
    show itemsN j' j.items.length ++ _ = _
    rw [itemsN_grow h5 h6 hi hn hf _ (Nat.le_refl _), hi, List.getElem?_append_right (Nat.le_refl _), Nat.sub_self]
    rfl
  unfold writeJ
  rw [e, hg, hb, List.append_assoc, List.append_assoc]
theorem itemT_1 (j : JobD) (a b : Int) : itemT j ⟨1, a, b, 0, 0, 0, 0⟩ = lineL kBox [a, b] ++ [10] := by
  unfold itemT numsJ; simp only [if_true]; rfl
theorem itemT_2 (j : JobD) (a b c d : Int) : itemT j ⟨2, a, 0, b, c, d, 0⟩ = lineL kGlue [a, b, c, d] ++ [10] := by
  unfold itemT numsJ; simp only [if_true]; rfl
theorem itemT_3 (j : JobD) (a : Int) : itemT j ⟨3, 0, 0, 0, 0, 0, a⟩ = lineL kPen [a] ++ [10] := by
  unfold itemT numsJ; rfl
theorem itemT_4 (j : JobD) (a : Int) : itemT j ⟨4, 0, 0, 0, 0, 0, a⟩ = lineL kMark [a] ++ [10] := by
  unfold itemT numsJ; rfl
theorem itemT_7 (j : JobD) : itemT j ⟨7, 0, 0, 0, 0, 0, 0⟩ = lineL kBar [] ++ [10] := by
  unfold itemT numsJ; rfl
theorem itemT_5 (j : JobD) (c : Nat) (d : NtD) (h : j.notes[c]? = some d) : itemT j ⟨5, 0, 0, 0, 0, 0, (c : Int)⟩ = lineL kNote (weave d) ++ [10] := by
  unfold itemT numsJ
  simp only [Int.toNat_natCast, h]
  rfl
theorem itemT_6 (j : JobD) (c : Nat) (d : Flt) (h : j.floats[c]? = some d) : itemT j ⟨6, 0, 0, 0, 0, 0, (c : Int)⟩ = lineL kFloat [d.c, d.h, d.w] ++ [10] := by
  unfold itemT numsJ
  simp only [Int.toNat_natCast, h]
  rfl
theorem last_get {α : Type} (l : List α) (x : α) : (l ++ [x])[l.length]? = some x := by
  rw [List.getElem?_append_right (Nat.le_refl _), Nat.sub_self]; rfl
/-- An item's line more. -/
theorem add_write {j j' : JobD} {w : List UInt8} {ns : List Int} (ha : addJ j w ns = some j') (hl : j.g.length = 18) (hR : rightJ j = true) : rightJ j' = true ∧ j'.g.length = 18 ∧ writeJ j' = writeJ j ++ (lineL w ns ++ [10]) := by
  obtain ⟨hb, hno, h5, h6⟩ := right_parts hR
  have keep : ∀ {y : Itm}, bareI y = true → (j.items ++ [y]).all bareI = true := fun {y} hy => by
    rw [List.all_append, hb]; simp [hy]
  unfold addJ at ha
  repeat' split at ha
  all_goals (first | (cases ha; done) | skip)
  all_goals cases ha
  · rename_i hw _ x0 x1
    subst hw
    have e := write_grow (j := j) (j' := { j with items := j.items ++ [⟨1, x0, x1, 0, 0, 0, 0⟩] }) h5 h6 rfl rfl rfl (fun _ _ => rfl) (fun _ _ => rfl)
    rw [itemT_1] at e
    refine ⟨right_of (keep rfl) hno ?_ ?_, hl, e⟩
    · simp only; rw [ancI_snoc h5, if_neg (by simp)]
    · simp only; rw [ancI_snoc h6, if_neg (by simp)]
  · rename_i hw _ x0 x1 x2 x3
    subst hw
    have e := write_grow (j := j) (j' := { j with items := j.items ++ [⟨2, x0, 0, x1, x2, x3, 0⟩] }) h5 h6 rfl rfl rfl (fun _ _ => rfl) (fun _ _ => rfl)
    rw [itemT_2] at e
    refine ⟨right_of (keep rfl) hno ?_ ?_, hl, e⟩
    · simp only; rw [ancI_snoc h5, if_neg (by simp)]
    · simp only; rw [ancI_snoc h6, if_neg (by simp)]
  · rename_i hw _ x0
    subst hw
    have e := write_grow (j := j) (j' := { j with items := j.items ++ [⟨3, 0, 0, 0, 0, 0, x0⟩] }) h5 h6 rfl rfl rfl (fun _ _ => rfl) (fun _ _ => rfl)
    rw [itemT_3] at e
    refine ⟨right_of (keep rfl) hno ?_ ?_, hl, e⟩
    · simp only; rw [ancI_snoc h5, if_neg (by simp)]
    · simp only; rw [ancI_snoc h6, if_neg (by simp)]
  · rename_i hw _ x0
    subst hw
    have e := write_grow (j := j) (j' := { j with items := j.items ++ [⟨4, 0, 0, 0, 0, 0, x0⟩] }) h5 h6 rfl rfl rfl (fun _ _ => rfl) (fun _ _ => rfl)
    rw [itemT_4] at e
    refine ⟨right_of (keep rfl) hno ?_ ?_, hl, e⟩
    · simp only; rw [ancI_snoc h5, if_neg (by simp)]
    · simp only; rw [ancI_snoc h6, if_neg (by simp)]
  · rename_i hw hpar
    subst hw
    obtain ⟨w1, w2⟩ := weave_eo2 (ns := ns) (by omega)
    have e := write_grow (j := j) (j' := { j with items := j.items ++ [⟨5, 0, 0, 0, 0, 0, (j.notes.length : Int)⟩], notes := j.notes ++ [⟨evens ns, odds ns⟩] }) h5 h6 rfl rfl rfl (fun k hk => List.getElem?_append_left hk) (fun _ _ => rfl)
    rw [itemT_5 _ _ _ (last_get _ _), w1] at e
    refine ⟨right_of (keep rfl) ?_ ?_ ?_, hl, e⟩
    · simp only; rw [List.all_append, hno]; simp [w2]
    · simp only; rw [ancI_snoc h5, if_pos rfl, if_pos rfl]; simp
    · simp only; rw [ancI_snoc h6, if_neg (by simp)]
  · rename_i hw _ x0 x1 x2
    subst hw
    have e := write_grow (j := j) (j' := { j with items := j.items ++ [⟨6, 0, 0, 0, 0, 0, (j.floats.length : Int)⟩], floats := j.floats ++ [⟨x0, x1, x2⟩] }) h5 h6 rfl rfl rfl (fun _ _ => rfl) (fun k hk => List.getElem?_append_left hk)
    rw [itemT_6 _ _ _ (last_get _ _)] at e
    refine ⟨right_of (keep rfl) hno ?_ ?_, hl, e⟩
    · simp only; rw [ancI_snoc h5, if_neg (by simp)]
    · simp only; rw [ancI_snoc h6, if_pos rfl, if_pos rfl]; simp
  · rename_i hw _
    subst hw
    have e := write_grow (j := j) (j' := { j with items := j.items ++ [⟨7, 0, 0, 0, 0, 0, 0⟩] }) h5 h6 rfl rfl rfl (fun _ _ => rfl) (fun _ _ => rfl)
    rw [itemT_7] at e
    refine ⟨right_of (keep rfl) hno ?_ ?_, hl, e⟩
    · simp only; rw [ancI_snoc h5, if_neg (by simp)]
    · simp only; rw [ancI_snoc h6, if_neg (by simp)]
/-- One line more. -/
theorem take_write {j j' : JobD} {next next' : Nat} {l : List UInt8} (h : takeJ (j, next) l = some (j', next')) (hI : Inv j next) : Inv j' next' ∧ writeJ j' = writeJ j ++ (l ++ [10]) := by
  unfold takeJ at h
  split at h
  · cases h
  · rename_i w ns hp
    obtain ⟨rfl, -, -⟩ := parseP_ok hp
    split at h
    · rw [Option.map_eq_some_iff] at h
      obtain ⟨j2, ha, h2⟩ := h
      cases h2
      obtain ⟨q1, q2, q3⟩ := add_write ha hI.len hI.right
      exact ⟨⟨q2, q1, fun h => by omega, fun h => by omega⟩, q3⟩
    · unfold headJ at h
      split at h
      · rename_i hw
        subst hw
        split at h
        · rename_i hc
          obtain ⟨hn, rfl⟩ := hc
          cases h
          obtain ⟨hbal, _⟩ := hI.heads hn
          refine ⟨⟨hI.len, hI.right, fun _ => hI.early (by omega), fun h => by omega⟩, ?_⟩
          unfold writeJ
          obtain ⟨ei, _, _⟩ := hI.early (by omega)
          simp only [ei, hbal]
          show headN j.g 18 ++ ((lineL wBal [] ++ [10]) ++ []) = (headN j.g 18 ++ ([] ++ [])) ++ (lineL wBal [] ++ [10])
          simp
        · cases h
      · split at h
        · cases h
        · rename_i i hg
          split at h
          · cases h
          · rename_i hle
            split at h
            · rename_i n
              split at h
              · cases h
              · rename_i hn0
                cases h
                obtain ⟨hi18, hwi⟩ := gi_gw hg
                obtain ⟨ei, en, ef⟩ := hI.early (by omega)
                obtain ⟨hbal, hz⟩ := hI.heads (by omega)
                refine ⟨⟨by show (j.g.set i n).length = 18; rw [List.length_set]; exact hI.len, hI.right, fun _ => ⟨ei, en, ef⟩, fun h => ⟨hbal, fun k h1 h2 => ?_⟩⟩, ?_⟩
                · show (j.g.set i n).getD k 0 = 0
                  have := hz k (by omega) h2
                  rw [List.getD_eq_getElem?_getD] at this ⊢
                  rw [List.getElem?_set_ne (by omega)]
                  exact this
                · unfold writeJ
                  simp only [ei, hbal]
                  rw [headN_set hI.len hi18 hn0 (fun k h1 h2 => hz k (by omega) h2), hwi]
                  show (headN j.g 18 ++ (lineL w [n] ++ [10])) ++ ([] ++ []) = (headN j.g 18 ++ ([] ++ [])) ++ (lineL w [n] ++ [10])
                  simp
            · cases h
theorem st_write {s : List UInt8} : ∀ {k : Nat} {j : JobD} {next : Nat}, (∀ i, i < k → Good s i) → stK s k = some (j, next) → Inv j next ∧ writeJ j ++ restK s k = s
  | 0, j, next, _, h => by
    cases h
    exact ⟨inv0, by rfl⟩
  | k + 1, j', next', hg, h => by
    unfold stK at h
    rw [Option.bind_eq_some_iff] at h
    obtain ⟨⟨j, next⟩, h1, h2⟩ := h
    obtain ⟨hI, ht⟩ := st_write (fun i hi => hg i (by omega)) h1
    obtain ⟨hI', hw⟩ := take_write h2 hI
    refine ⟨hI', ?_⟩
    obtain ⟨a, _, e1, e2⟩ := cut_short _ (hg k (by omega)).2.1
    rw [hw]
    conv => rhs; rw [← ht, e1]
    unfold lineK
    rw [e2]
    show _ ++ (Lib.cut (restK s k) [10]).2.1 = _
    simp
/-- What is read of a text has just this text. -/
theorem read_text {s : List UInt8} {N : Nat} (hg : ∀ i, i < N → Good s i) (hr : restK s N = []) {j : JobD} {next : Nat} (h : stK s N = some (j, next)) : rightJ j = true ∧ writeJ j = s := by
  obtain ⟨hI, ht⟩ := st_write hg h
  rw [hr, List.append_nil] at ht
  exact ⟨hI.right, ht⟩
end Go.Proofs.YtaekeogaakogbaaGreatDoor
namespace Go.Proofs.YtaekeogaakogbaaGreatDoor

open Go.ChangeShapes Go.WideShapes Go.ChangeAt Go.RowKit Go.Shelf

theorem digG {u : Nat} (h : u < 10) : Lib.itoa (u : Int) = [UInt8.ofNat (48 + u)] := by
  unfold Lib.itoa
  rw [if_neg (by omega), Int.toNat_natCast, Lib.decDigits, dif_pos h]
theorem ig0 : Lib.itoa 0 = [48] := digG (u := 0) (by decide)
theorem ig1 : Lib.itoa 1 = [49] := digG (u := 1) (by decide)
theorem ig3 : Lib.itoa 3 = [51] := digG (u := 3) (by decide)
theorem ig4 : Lib.itoa 4 = [52] := digG (u := 4) (by decide)
theorem ig5 : Lib.itoa 5 = [53] := digG (u := 5) (by decide)
def awG : List Int := [1, 0, 0, 0, 0, 0, 0, 0, 0, 0, 0, 0, 0, 0, 0, 0, 0, 0]
def awI : List Itm := [⟨1, 3, 0, 0, 0, 0, 0⟩, ⟨5, 0, 0, 0, 0, 0, 0⟩]
def awN (p q : Nat) : List Nt := [⟨⟨some ⟨p, 0, none⟩, 2, 2, [4, 5]⟩, ⟨some ⟨q, 0, none⟩, 1, 1, [0]⟩⟩]
/-- The job that is written: its items, its note's lines, penalties, and notes lie in blocks of their own. -/
def awJ (i p q n : Nat) : JobI := ⟨awG, false, ⟨some ⟨i, 0, none⟩, 2, 2, awI⟩, ⟨some ⟨n, 0, none⟩, 1, 1, awN p q⟩, ⟨none, 0, 0, []⟩⟩
def awD : JobD := ⟨awG, false, awI, [⟨[4, 5], [0]⟩], []⟩
theorem awJ_d (i p q n : Nat) : (awJ i p q n).d = awD := rfl
theorem awD_right : rightJ awD = true := by decide
theorem awD_head : headN awG 18 = [99, 111, 108, 115, 32, 49, 10] := by
  have e : headN awG 18 = headN awG 1 := headN_zero (a := 1) 18 (by omega) (fun k h1 h2 => by
    rcases cases18 h2 with rfl | rfl | rfl | rfl | rfl | rfl | rfl | rfl | rfl | rfl | rfl | rfl | rfl | rfl | rfl | rfl | rfl | rfl
    · omega
    all_goals rfl)
  rw [e]
  show [] ++ (lineL (gwAt 0) [1] ++ [10]) = _
  unfold lineL numL
  simp only [List.flatMap_cons, List.flatMap_nil, ig1]
  rfl
theorem awD_text : writeJ awD = [99, 111, 108, 115, 32, 49, 10, 98, 111, 120, 32, 51, 32, 48, 10, 110, 111, 116, 101, 32, 52, 32, 48, 32, 53, 10] := by
  have e1 : itemsN awD 2 = ([] ++ (lineL kBox [3, 0] ++ [10])) ++ (lineL kNote [4, 0, 5] ++ [10]) := rfl
  unfold writeJ
  show headN awG 18 ++ ([] ++ itemsN awD 2) = _
  rw [awD_head, e1]
  unfold lineL numL
  simp only [List.flatMap_cons, List.flatMap_nil, ig0, ig3, ig4, ig5]
  rfl
theorem awG_ok : ∀ n, n ∈ awG → I64 n := by unfold I64 awG; decide
theorem awJ_good {w : World} {i p q n : Nat} (hi : Blk w i (awI.flatMap Itm.cells) 43) (hp : Blk w p [.int .i64 4, .int .i64 5] 23) (hq : Blk w q [.int .i64 0] 3) (hn : Blk w n ((awN p q).flatMap Nt.cells) 47) : (awJ i p q n).good w := by
  have z : ∀ m : Int, 0 ≤ m → m ≤ 9 → I64 m := fun m h0 h1 => by unfold I64; omega
  have sl : ∀ {α : Type} {k : Nat} {enc : α → List Value} {b : Nat} {l : List α} {t : TypeId}, (∀ x, (enc x).length = k) → Blk w b (l.flatMap enc) t → l.length ≤ 100 → SlOk w k enc (some ⟨b, 0, none⟩) l.length l.length l := fun hk h hm =>
    ⟨rfl, Nat.le_refl _, by unfold maxLen; omega, .inr ⟨_, 0, rfl, h.lt, fun i x hx j v hv => by rw [Nat.zero_add]; exact h.cell _ (flatMap_get hk _ i x j v hx hv)⟩⟩
  refine ⟨rfl, awG_ok, sl (l := awI) (fun _ => rfl) hi (by decide), fun y hy => ?_, sl (l := awN p q) (fun _ => rfl) hn (by show 1 ≤ 100; decide), fun y hy => ?_, slOk_nil _ _ _, fun y hy => by cases hy⟩
  · simp only [awJ, awI, List.mem_cons, List.not_mem_nil, or_false] at hy
    rcases hy with rfl | rfl
    · exact ⟨z _ (by decide) (by decide), z _ (by decide) (by decide), z _ (by decide) (by decide), z _ (by decide) (by decide), z _ (by decide) (by decide), z _ (by decide) (by decide), z _ (by decide) (by decide)⟩
    · exact ⟨z _ (by decide) (by decide), z _ (by decide) (by decide), z _ (by decide) (by decide), z _ (by decide) (by decide), z _ (by decide) (by decide), z _ (by decide) (by decide), z _ (by decide) (by decide)⟩
  · simp only [awJ, awN, List.mem_cons, List.not_mem_nil, or_false] at hy
    subst hy
    refine ⟨⟨sl (l := [4, 5]) (fun _ => rfl) hp (by decide), fun m hm => ?_⟩, sl (l := [0]) (fun _ => rfl) hq (by decide), fun m hm => ?_⟩
    · simp only [List.mem_cons, List.not_mem_nil, or_false] at hm
      rcases hm with rfl | rfl
      · exact z _ (by decide) (by decide)
      · exact z _ (by decide) (by decide)
    · simp only [List.mem_cons, List.not_mem_nil, or_false] at hm
      subst hm
      exact z _ (by decide) (by decide)
/-- A reading that comes to its end. -/
theorem script_done {s : List UInt8} {W w' : World} {e : Ending} (h : ScriptEnd s W e w') {N : Nat} (hg : ∀ k, k < N → Good s k) (hn : ¬ Good s N) (hr : restK s N = []) {j : JobD} {nx : Nat} (hst : stK s N = some (j, nx)) :
    Kp W w' ∧ ∃ iv nv fv, e = .returned (.tuple #[jobV j iv nv fv, .int .i64 0]) ∧ JRep w' W.heap.size iv nv fv j := by
  obtain ⟨k, M, hg2, hn2, h2⟩ := h
  obtain rfl := good_uniq hg hn hg2 hn2
  rcases h2 with ⟨_, j', nx', iv, nv, fv, h3, h4, h5⟩ | ⟨h3, _⟩
  · rw [hst] at h3
    cases h3
    exact ⟨k, iv, nv, fv, h4, h5⟩
  · exact absurd hr h3
theorem script_bad {s : List UInt8} {W w' : World} {e : Ending} (h : ScriptEnd s W e w') {N : Nat} (hg : ∀ k, k < N → Good s k) (hn : ¬ Good s N) (hr : restK s N ≠ []) :
    Kp W w' ∧ e = .returned (.tuple #[jobV job0 (.slice none 0 0) (.slice none 0 0) (.slice none 0 0), .int .i64 ((N : Int) + 1)]) := by
  obtain ⟨k, M, hg2, hn2, h2⟩ := h
  obtain rfl := good_uniq hg hn hg2 hn2
  rcases h2 with ⟨h3, _⟩ | ⟨_, h4⟩
  · exact absurd h3 hr
  · exact ⟨k, h4⟩
abbrev aw2 : List UInt8 := [99, 111, 108, 115, 32, 49, 10, 98, 111, 120, 32, 51, 10]
theorem aw2_bad : (∀ k, k < 1 → Good aw2 k) ∧ ¬ Good aw2 1 ∧ restK aw2 1 ≠ [] := by
  have c0 : Lib.cut aw2 [10] = ([99, 111, 108, 115, 32, 49], [98, 111, 120, 32, 51, 10], true) := by decide
  have c1 : Lib.cut [98, 111, 120, 32, 51, 10] [10] = ([98, 111, 120, 32, 51], [], true) := by decide
  have r1 : restK aw2 1 = [98, 111, 120, 32, 51, 10] := by show (Lib.cut aw2 [10]).2.1 = _; rw [c0]
  have l0 : lineK aw2 0 = lineL (gwAt 0) [1] := by
    show (Lib.cut aw2 [10]).1 = _
    rw [c0]; unfold lineL numL; simp only [List.flatMap_cons, List.flatMap_nil, ig1]; rfl
  have l1 : lineK aw2 1 = lineL kBox [3] := by
    unfold lineK
    rw [r1, c1]; unfold lineL numL; simp only [List.flatMap_cons, List.flatMap_nil, ig3]; rfl
  have i1 : I64 1 := by unfold I64; decide
  have i3 : I64 3 := by unfold I64; decide
  have s1 : stK aw2 1 = some ({ job0 with g := job0.g.set 0 1 }, 1) := by
    show (some (job0, 0)).bind (fun st => takeJ st (lineK aw2 0)) = _
    rw [Option.bind_some, l0, takeJ_head (by decide) (Nat.le_refl _) (by decide) i1]
  have s2 : stK aw2 2 = none := by
    show (stK aw2 1).bind (fun st => takeJ st (lineK aw2 1)) = _
    rw [s1, Option.bind_some, l1]
    unfold takeJ
    rw [parseP_line (by decide) (fun m hm => by rw [List.mem_singleton] at hm; rw [hm]; exact i3)]
    rfl
  refine ⟨fun k hk => ?_, fun hg => ?_, by rw [r1]; simp⟩
  · obtain rfl : k = 0 := by omega
    exact ⟨by simp [restK], by show (Lib.cut aw2 [10]).2.2 = true; rw [c0], by rw [s1]; rfl⟩
  · have := hg.2.2
    rw [s2] at this
    cases this
theorem line_le (s : List UInt8) (h : s.length ≤ 10000) (k : Nat) : (lineK s k).length ≤ 10000 := Nat.le_trans (cut_le _).1 (Nat.le_trans (rest_le s k) h)
theorem good_le (s : List UInt8) (h : s.length ≤ 90000) (N : Nat) (hg : ∀ j, j < N → Good s j) : N ≤ 90000 := by
  have := rest_len s N hg
  omega
abbrev awT : List UInt8 := [99, 111, 108, 115, 32, 49, 10, 98, 111, 120, 32, 51, 32, 48, 10, 110, 111, 116, 101, 32, 52, 32, 48, 32, 53, 10]
theorem aw_write (i p q n : Nat) (w : World) (he : Env w) (hx : (awJ i p q n).good w) : Calls Tryz.prog 10 #[.agg (awJ i p q n).L.toArray] w fun e w' => e = .returned (.tuple #[sv awT, .bool true]) ∧ Kp w w' :=
  (write_yes (awJ i p q n) w he hx awD_right (by show awI.length ≤ 100000; decide) (fun y hy => by
    simp only [awJ, awN, List.mem_cons, List.not_mem_nil, or_false] at hy
    subst hy
    show [4, 5].length ≤ 10000
    decide)).mono fun e w' h => ⟨by rw [h.1, awJ_d, awD_text], h.2⟩
theorem aw_read (w : World) (he : Env w) : Calls Tryz.prog 6 #[sv awT] w fun e w' => Kp w w' ∧ ∃ x : JobI, x.good w' ∧ x.d = awD ∧ e = .returned (.tuple #[.agg x.L.toArray, .int .i64 0]) := by
  have hok : awD.ok := JobI.ok (x := awJ 0 1 2 3) (w := { (default : World) with heap := #[.cells (awI.flatMap Itm.cells).toArray 43 (0, 0), .cells #[.int .i64 4, .int .i64 5] 23 (0, 0), .cells #[.int .i64 0] 3 (0, 0), .cells ((awN 1 2).flatMap Nt.cells).toArray 47 (0, 0)] }) (awJ_good ⟨rfl⟩ ⟨rfl⟩ ⟨rfl⟩ ⟨rfl⟩)
  have hN : NumsOk awD := nums_ok hok (by decide)
  obtain ⟨nx, hr⟩ := text_back awD_right hok hN
  obtain ⟨q1, q2, q3, q4⟩ := text_good (lines_no10 awD) hr
  rw [text_lines, awD_text] at q1 q2 q3 q4
  refine (scriptRead_any awT w he (by decide) (line_le _ (by decide)) (good_le _ (by decide))).mono fun e w' h => ?_
  obtain ⟨k, iv, nv, fv, he', hJ⟩ := script_done h q1 q2 q3 q4
  obtain ⟨x, hx, hd, hL⟩ := hJ.jobI hok
  exact ⟨k, x, hx, hd, by rw [he', hL]; rfl⟩
theorem aw_read2 (w : World) (he : Env w) : Calls Tryz.prog 6 #[sv aw2] w fun e w' => Kp w w' ∧ e = .returned (.tuple #[.agg jobZ.toArray, .int .i64 2]) := by
  obtain ⟨q1, q2, q3⟩ := aw2_bad
  refine (scriptRead_any aw2 w he (by decide) (line_le _ (by decide)) (good_le _ (by decide))).mono fun e w' h => ?_
  exact script_bad h q1 q2 q3
set_option maxRecDepth 100000 in
set_option maxHeartbeats 8000000 in
theorem awake43_any (w : World) (he : Env w) : Calls Tryz.prog 5 #[] w fun e w' => e = .returned (.bool true) ∧ Kp w w' := by
  have CW := Lib.hid (fun w' (k : Kp w w') i p q n h => aw_write i p q n w' (he.kp k) h)
  have CR := Lib.hid (fun w' (k : Kp w w') => aw_read w' (he.kp k))
  have CR2 := Lib.hid (fun w' (k : Kp w w') => aw_read2 w' (he.kp k))
  clear he
  go_enter Tryz.func5, Tryz.ntmps5
  go_wp2_with fail
  refine (CW.out _ (by (repeat (first | with_reducible assumption | with_reducible exact Kp.refl _ | with_reducible refine Kp.drew ?_ | with_reducible refine Kp.drewN ?_ _ | with_reducible refine Kp.alloc ?_ _ | ((with_reducible refine Kp.setCell ?_ ?_ _); rotate_left; (focus (first | omega | (simp; done) | (simp; omega)))) | with_reducible refine Kp.trans ?_ (by assumption)))) w.heap.size (w.heap.size + 1) (w.heap.size + 1 + 1) (w.heap.size + 1 + 1 + 1) (awJ_good (by (repeat (first | with_reducible assumption | ((with_reducible refine Blk.newL ?_ ?_); (focus (first | (simp; done) | omega)); rfl) | with_reducible refine Blk.drew ?_ | with_reducible refine Blk.drewN ?_ _ | with_reducible refine Blk.alloc ?_ _ | ((with_reducible refine Blk.other ?_ ?_ _); rotate_left; (focus (first | with_reducible assumption | omega | (simp; done) | (simp; omega))))))) (by (repeat (first | with_reducible assumption | ((with_reducible refine Blk.newL ?_ ?_); (focus (first | (simp; done) | omega)); rfl) | with_reducible refine Blk.drew ?_ | with_reducible refine Blk.drewN ?_ _ | with_reducible refine Blk.alloc ?_ _ | ((with_reducible refine Blk.other ?_ ?_ _); rotate_left; (focus (first | with_reducible assumption | omega | (simp; done) | (simp; omega))))))) (by (repeat (first | with_reducible assumption | ((with_reducible refine Blk.newL ?_ ?_); (focus (first | (simp; done) | omega)); rfl) | with_reducible refine Blk.drew ?_ | with_reducible refine Blk.drewN ?_ _ | with_reducible refine Blk.alloc ?_ _ | ((with_reducible refine Blk.other ?_ ?_ _); rotate_left; (focus (first | with_reducible assumption | omega | (simp; done) | (simp; omega))))))) (by (repeat (first | with_reducible assumption | ((with_reducible refine Blk.newL ?_ ?_); (focus (first | (simp; done) | omega)); rfl) | with_reducible refine Blk.drew ?_ | with_reducible refine Blk.drewN ?_ _ | with_reducible refine Blk.alloc ?_ _ | ((with_reducible refine Blk.other ?_ ?_ _); rotate_left; (focus (first | with_reducible assumption | omega | (simp; done) | (simp; omega))))))))).mono ?_
  rintro e w1 ⟨rfl, k1⟩
  have kw1 : Kp w w1 := Kp.trans (by (repeat (first | with_reducible assumption | with_reducible exact Kp.refl _ | with_reducible refine Kp.drew ?_ | with_reducible refine Kp.drewN ?_ _ | with_reducible refine Kp.alloc ?_ _ | ((with_reducible refine Kp.setCell ?_ ?_ _); rotate_left; (focus (first | omega | (simp; done) | (simp; omega)))) | with_reducible refine Kp.trans ?_ (by assumption)))) k1
  clear CW k1
  go_wp2_with fail
  refine (CR.out _ (kw1.trans (show Kp w1 _ from (by (repeat (first | with_reducible assumption | with_reducible exact Kp.refl _ | with_reducible refine Kp.drew ?_ | with_reducible refine Kp.drewN ?_ _ | with_reducible refine Kp.alloc ?_ _ | ((with_reducible refine Kp.setCell ?_ ?_ _); rotate_left; (focus (first | omega | (simp; done) | (simp; omega)))) | with_reducible refine Kp.trans ?_ (by assumption))))))).mono ?_
  rintro e w2 ⟨k2, x, hx, hd, rfl⟩
  have kw2 : Kp w w2 := kw1.trans ((show Kp w1 _ from (by (repeat (first | with_reducible assumption | with_reducible exact Kp.refl _ | with_reducible refine Kp.drew ?_ | with_reducible refine Kp.drewN ?_ _ | with_reducible refine Kp.alloc ?_ _ | ((with_reducible refine Kp.setCell ?_ ?_ _); rotate_left; (focus (first | omega | (simp; done) | (simp; omega)))) | with_reducible refine Kp.trans ?_ (by assumption))))).trans k2)
  obtain ⟨X, hX⟩ : ∃ X, x.L = X := ⟨_, rfl⟩
  have HXl : Hid (X.length = 22) := Lib.hid (by rw [← hX]; exact JobI.L_len hx)
  have HX1 : Hid (∀ v ∈ X, v.oneCell' = true) := Lib.hid (by rw [← hX]; exact JobI.L_one x)
  have X20 := Lib.hid (x.get hx.len 2 (by omega))
  have hn1 : x.nts.len = 1 := by
    have h1 := hx.nts.1
    have h2 : x.d.notes.length = awD.notes.length := by rw [hd]
    have h3 : x.d.notes.length = x.nts.l.length := List.length_map _
    have h4 : awD.notes.length = 1 := rfl
    omega
  have hnc := hx.nts.2.1
  have hnm := hx.nts.2.2.1
  unfold maxLen at hnm
  rw [hX] at X20 ⊢
  obtain ⟨p1, b1, ⟨a1, n1, c1, l1⟩, ⟨a2, n2, c2, l2⟩, ⟨a3, q, c3, l3⟩⟩ := x
  simp only at hn1 hnc hnm X20
  subst hn1
  clear CR k2 hx hd hX
  go_wp2_with (first
    | (refine stRowW (vs := X) rowJob rfl (.tmp 3) (.tmp 23) rfl (Blk.newL (cs := jobZ) rfl rfl) jobZ_len HXl.out HX1.out rfl rfl ?_; intro w3 hb3 hoth3 hkp3 hsz3; have kw3 : Kp w w3 := hkp3 kw2.size (kw2.trans (show Kp w2 _ from (by (repeat (first | with_reducible assumption | with_reducible exact Kp.refl _ | with_reducible refine Kp.drew ?_ | with_reducible refine Kp.drewN ?_ _ | with_reducible refine Kp.alloc ?_ _ | ((with_reducible refine Kp.setCell ?_ ?_ _); rotate_left; (focus (first | omega | (simp; done) | (simp; omega)))) | with_reducible refine Kp.trans ?_ (by assumption)))))); have hbl3 := hb3.lt; have c20 := hb3.cell 20 (X20.out.trans rfl); clear hoth3 hkp3 hsz3)
    | (go_at_call 6; refine (CR2.out _ (kw3.trans (show Kp w3 _ from (by (repeat (first | with_reducible assumption | with_reducible exact Kp.refl _ | with_reducible refine Kp.drew ?_ | with_reducible refine Kp.drewN ?_ _ | with_reducible refine Kp.alloc ?_ _ | ((with_reducible refine Kp.setCell ?_ ?_ _); rotate_left; (focus (first | omega | (simp; done) | (simp; omega)))) | with_reducible refine Kp.trans ?_ (by assumption))))))).mono ?_; rintro e w4 ⟨k4, rfl⟩; have k34 : Kp w3 w4 := (show Kp w3 _ from (by (repeat (first | with_reducible assumption | with_reducible exact Kp.refl _ | with_reducible refine Kp.drew ?_ | with_reducible refine Kp.drewN ?_ _ | with_reducible refine Kp.alloc ?_ _ | ((with_reducible refine Kp.setCell ?_ ?_ _); rotate_left; (focus (first | omega | (simp; done) | (simp; omega)))) | with_reducible refine Kp.trans ?_ (by assumption))))).trans k4; have hb4 := hb3.kp k34)
    | (refine stRowW (vs := jobZ) rowJob rfl (.tmp 5) (.tmp 27) rfl (Blk.newL (cs := jobZ) rfl rfl) jobZ_len jobZ_len jobZ_one rfl rfl ?_; intro w5 hb5 hoth5 hkp5 hsz5; have kw5 : Kp w w5 := hkp5 (kw3.trans k34).size (kw3.trans (k34.trans (show Kp w4 _ from (by (repeat (first | with_reducible assumption | with_reducible exact Kp.refl _ | with_reducible refine Kp.drew ?_ | with_reducible refine Kp.drewN ?_ _ | with_reducible refine Kp.alloc ?_ _ | ((with_reducible refine Kp.setCell ?_ ?_ _); rotate_left; (focus (first | omega | (simp; done) | (simp; omega)))) | with_reducible refine Kp.trans ?_ (by assumption))))))); have hb35 := hoth5 (by have := hb4.lt; omega) (hb4.alloc _); have d20 := hb35.cell 20 (X20.out.trans rfl); have hbl5 := hb35.lt; clear hoth5 hkp5 hsz5))
  (try go_ret)
  exact ⟨rfl, kw5.trans (show Kp w5 _ from (by (repeat (first | with_reducible assumption | with_reducible exact Kp.refl _ | with_reducible refine Kp.drew ?_ | with_reducible refine Kp.drewN ?_ _ | with_reducible refine Kp.alloc ?_ _ | ((with_reducible refine Kp.setCell ?_ ?_ _); rotate_left; (focus (first | omega | (simp; done) | (simp; omega)))) | with_reducible refine Kp.trans ?_ (by assumption)))))⟩
end Go.Proofs.YtaekeogaakogbaaGreatDoor
namespace Go.Proofs.YtaekeogaakogbaaGreatDoor

open Go.ChangeShapes Go.WideShapes Go.ChangeAt Go.RowKit Go.Shelf

theorem gotL_range {w : World} {b : Nat} {J : List Value} {n : Int} {t : TypeId} (h : Blk w b (gotL J n) t) : w.rangeAt b 0 J := fun j v hv => by
  rw [Nat.zero_add]
  refine h.cell j ?_
  unfold gotL
  rw [List.getElem?_append_left (List.getElem?_eq_some_iff.1 hv).1]
  exact hv
theorem gotL_22 {J : List Value} (h : J.length = 22) (n : Int) : (gotL J n)[22]? = some (.int .i64 n) := by
  unfold gotL; rw [List.getElem?_append_right (by omega), h]; rfl
/-- A load of many cells by an operation that has a guard. -/
theorem ldRowG {ty : TypeId} {n : Nat} (R : RowT ty n) {ops : Array Oper} {rest : List Oper} {o : Oper} {a : Act} {w : World} {Q : Exit → Act → World → Prop} {vs : List Value} (hw : Region.wanted o (yielded ops a.tmps) = true) (x : Operand) (ho : o.op = .load ty x)
    {b off : Nat} (hr : w.rangeAt b off vs) (hv : vs.length = n) (hx : a.eval x = .pointer (some ⟨b, off, none⟩)) (h : wpList Tryz.prog ops Q rest (a.put o.dst (.agg vs.toArray)) w) : wpList Tryz.prog ops Q (o :: rest) a w :=
  Go.BigFrame.wpList_want hw fun _ hK => ldRowX R x ho hr hv hx (hK _ _ h)
theorem sc_pair {s : List UInt8} {W w1 : World} {e : Ending} (h : ScriptEnd s W e w1) (hs : s.length ≤ 10000) : ∃ (x : JobI) (z : Int), e = .returned (.tuple #[.agg x.L.toArray, .int .i64 z]) ∧ x.good w1 ∧ Kp W w1 ∧
    ∀ W2 e2 w2, RefEnd s W2 e2 w2 → ∃ y : JobI, e2 = .returned (.agg (gotL y.L z).toArray) ∧ y.good w2 ∧ Kp W2 w2 ∧ x.d = y.d := by
  obtain ⟨k1, N, hg, hn, ⟨hr, j, nx, iv, nv, fv, hst, rfl, hJ⟩ | ⟨hr, rfl⟩⟩ := h
  · have hN := rest_len s N hg
    have hok := (stK_ok (by omega) hst).1
    obtain ⟨x, hx, hd, hL⟩ := hJ.jobI hok
    refine ⟨x, 0, by rw [hL]; rfl, hx, k1, fun W2 e2 w2 h2 => ?_⟩
    obtain ⟨k2, M, hg2, hn2, h2⟩ := h2
    obtain rfl := good_uniq hg hn hg2 hn2
    rcases h2 with ⟨_, j', nx', iv', nv', fv', hst', rfl, hJ'⟩ | ⟨hr2, _⟩
    · rw [hst] at hst'
      cases hst'
      obtain ⟨y, hy, hd', hL'⟩ := hJ'.jobI hok
      exact ⟨y, by rw [hL'], hy, k2, by rw [hd, hd']⟩
    · exact absurd hr hr2
  · refine ⟨jobI0, _, rfl, jobI0_good _, k1, fun W2 e2 w2 h2 => ?_⟩
    obtain ⟨k2, M, hg2, hn2, h2⟩ := h2
    obtain rfl := good_uniq hg hn hg2 hn2
    rcases h2 with ⟨hr2, _⟩ | ⟨_, rfl⟩
    · exact absurd hr2 hr
    · exact ⟨jobI0, rfl, jobI0_good _, k2, rfl⟩
set_option maxRecDepth 100000 in
set_option maxHeartbeats 8000000 in
theorem scriptReads_main (s : List UInt8) (w : World) (he : Env w) (hs : s.length ≤ 3000) : Calls Tryz.prog 3 #[sv s] w fun e w' => e = .returned (.bool true) ∧ Kp w w' := by
  have CG : Hid (∀ w', Kp w w' → Calls Tryz.prog 6 #[sv s] w' (ScriptEnd s w')) := Lib.hid fun w' k => scriptRead_any s w' (he.kp k) (by omega) (line_le s (by omega)) (good_le s (by omega))
  have CR : Hid (∀ w', Calls Tryz.prog 7 #[sv s] w' (RefEnd s w')) := Lib.hid fun w' => refRead43_any s (by omega) w'
  have CAW : Hid (∀ w', Kp w w' → Calls Tryz.prog 5 #[] w' fun e w'' => e = .returned (.bool true) ∧ Kp w' w'') := Lib.hid fun w' k => awake43_any w' (he.kp k)
  have HS := Lib.hid hs
  have j1 : decide ((3000 : Int) < (s.length : Int)) = false := decide_eq_false (by omega)
  clear he hs
  go_enter Tryz.func3, Tryz.ntmps3
  go_wp2_with fail
  refine (CG.out _ (by (repeat (first | with_reducible assumption | with_reducible exact Kp.refl _ | with_reducible refine Kp.drew ?_ | with_reducible refine Kp.drewN ?_ _ | with_reducible refine Kp.alloc ?_ _ | ((with_reducible refine Kp.setCell ?_ ?_ _); rotate_left; (focus (first | omega | (simp; done) | (simp; omega)))) | with_reducible refine Kp.trans ?_ (by assumption))))).mono ?_
  intro e w1 h1
  obtain ⟨x, z, rfl, hx, k1, hp⟩ := sc_pair h1 (by have := HS.out; omega)
  have HP := Lib.hid hp
  have HX := Lib.hid hx
  have kw1 : Kp w w1 := ((by (repeat (first | with_reducible assumption | with_reducible exact Kp.refl _ | with_reducible refine Kp.drew ?_ | with_reducible refine Kp.drewN ?_ _ | with_reducible refine Kp.alloc ?_ _ | ((with_reducible refine Kp.setCell ?_ ?_ _); rotate_left; (focus (first | omega | (simp; done) | (simp; omega)))) | with_reducible refine Kp.trans ?_ (by assumption)))) : Kp w _).trans k1
  obtain ⟨X, hX⟩ : ∃ X, x.L = X := ⟨_, rfl⟩
  have HXX := Lib.hid hX
  have HXl : Hid (X.length = 22) := Lib.hid (by rw [← hX]; exact JobI.L_len hx)
  have HX1 : Hid (∀ v ∈ X, v.oneCell' = true) := Lib.hid (by rw [← hX]; exact JobI.L_one x)
  rw [hX]
  clear h1 hp k1 hx hX
  go_wp2_with (first
    | (refine stRowW (vs := X) rowJob rfl (.tmp 3) (.tmp 13) rfl (Blk.newL (cs := jobZ) rfl rfl) jobZ_len HXl.out HX1.out rfl rfl ?_; intro w2 hb2 hoth2 hkp2 hsz2; have kw12 : Kp w1 w2 := hkp2 (Nat.le_refl _) (show Kp w1 _ from (by (repeat (first | with_reducible assumption | with_reducible exact Kp.refl _ | with_reducible refine Kp.drew ?_ | with_reducible refine Kp.drewN ?_ _ | with_reducible refine Kp.alloc ?_ _ | ((with_reducible refine Kp.setCell ?_ ?_ _); rotate_left; (focus (first | omega | (simp; done) | (simp; omega)))) | with_reducible refine Kp.trans ?_ (by assumption))))); clear hoth2 hkp2 hsz2))
  refine (CR.out _).mono ?_
  intro e w3 h3
  obtain ⟨y, rfl, hy, k3, hd⟩ := HP.out _ _ _ h3
  have k23 : Kp w2 w3 := (show Kp w2 _ from (by (repeat (first | with_reducible assumption | with_reducible exact Kp.refl _ | with_reducible refine Kp.drew ?_ | with_reducible refine Kp.drewN ?_ _ | with_reducible refine Kp.alloc ?_ _ | ((with_reducible refine Kp.setCell ?_ ?_ _); rotate_left; (focus (first | omega | (simp; done) | (simp; omega)))) | with_reducible refine Kp.trans ?_ (by assumption))))).trans k3
  have hb3 := hb2.kp k23
  have hbl3 := hb3.lt
  have hx3 := HX.out.kp (kw12.trans k23)
  have CS := Lib.hid (fun w' (k : Kp w3 w') => same14_any x y w' (hx3.kp k) (hy.kp k) hd)
  obtain ⟨Y, hY⟩ : ∃ Y, y.L = Y := ⟨_, rfl⟩
  have HYl : Hid (Y.length = 22) := Lib.hid (by rw [← hY]; exact JobI.L_len hy)
  have HY1 : Hid (∀ v ∈ Y, v.oneCell' = true) := Lib.hid (by rw [← hY]; exact JobI.L_one y)
  rw [HXX.out, hY] at CS
  rw [hY]
  have kw3 : Kp w w3 := kw1.trans (kw12.trans k23)
  clear h3 hy hd hY HP HX hx3 HXX k3
  go_wp2_with (first
    | (refine stRowW (vs := gotL Y z) rowGot rfl (.tmp 5) (.tmp 16) rfl (Blk.newL (cs := gotL jobZ 0) rfl rfl) (gotL_len jobZ_len _) (gotL_len HYl.out _) (gotL_one HY1.out _) rfl rfl ?_; intro w4 hb4 hoth4 hkp4 hsz4; have kw34 : Kp w3 w4 := hkp4 (Nat.le_refl _) (show Kp w3 _ from (by (repeat (first | with_reducible assumption | with_reducible exact Kp.refl _ | with_reducible refine Kp.drew ?_ | with_reducible refine Kp.drewN ?_ _ | with_reducible refine Kp.alloc ?_ _ | ((with_reducible refine Kp.setCell ?_ ?_ _); rotate_left; (focus (first | omega | (simp; done) | (simp; omega)))) | with_reducible refine Kp.trans ?_ (by assumption))))); have hbx4 := hoth4 (by omega) (hb3.alloc _); have c22 := hb4.cell 22 (gotL_22 HYl.out z); have hbl4 := hb4.lt; clear hoth4 hkp4 hsz4)
    | (refine ldRowG rowJob (by rfl) (.tmp 3) rfl (vs := X) hbx4.range HXl.out rfl ?_)
    | (refine ldRowG rowJob (by rfl) (.tmp 23) rfl (vs := Y) (gotL_range hb4) HYl.out rfl ?_)
    | (go_at_call 8; refine (CS.out _ (kw34.trans (show Kp w4 _ from (by (repeat (first | with_reducible assumption | with_reducible exact Kp.refl _ | with_reducible refine Kp.drew ?_ | with_reducible refine Kp.drewN ?_ _ | with_reducible refine Kp.alloc ?_ _ | ((with_reducible refine Kp.setCell ?_ ?_ _); rotate_left; (focus (first | omega | (simp; done) | (simp; omega)))) | with_reducible refine Kp.trans ?_ (by assumption))))))).mono ?_; rintro e w5 ⟨rfl, k5⟩; have k45 : Kp w4 w5 := (show Kp w4 _ from (by (repeat (first | with_reducible assumption | with_reducible exact Kp.refl _ | with_reducible refine Kp.drew ?_ | with_reducible refine Kp.drewN ?_ _ | with_reducible refine Kp.alloc ?_ _ | ((with_reducible refine Kp.setCell ?_ ?_ _); rotate_left; (focus (first | omega | (simp; done) | (simp; omega)))) | with_reducible refine Kp.trans ?_ (by assumption))))).trans k5)
    | (go_at_call 5; refine (CAW.out _ (kw3.trans (kw34.trans (k45.trans (show Kp w5 _ from (by (repeat (first | with_reducible assumption | with_reducible exact Kp.refl _ | with_reducible refine Kp.drew ?_ | with_reducible refine Kp.drewN ?_ _ | with_reducible refine Kp.alloc ?_ _ | ((with_reducible refine Kp.setCell ?_ ?_ _); rotate_left; (focus (first | omega | (simp; done) | (simp; omega)))) | with_reducible refine Kp.trans ?_ (by assumption))))))))).mono ?_; rintro e w6 ⟨rfl, k6⟩))
  (try go_ret)
  exact ⟨rfl, kw3.trans (kw34.trans (k45.trans ((show Kp w5 _ from (by (repeat (first | with_reducible assumption | with_reducible exact Kp.refl _ | with_reducible refine Kp.drew ?_ | with_reducible refine Kp.drewN ?_ _ | with_reducible refine Kp.alloc ?_ _ | ((with_reducible refine Kp.setCell ?_ ?_ _); rotate_left; (focus (first | omega | (simp; done) | (simp; omega)))) | with_reducible refine Kp.trans ?_ (by assumption))))).trans k6)))⟩
set_option maxHeartbeats 1000000 in
theorem scriptReads_far (s : List UInt8) (w : World) (he : Env w) (h : 3000 < s.length) (h2 : s.length ≤ 9223372036854775807) :
    Calls Tryz.prog 3 #[sv s] w fun e w' => e = .returned (.bool true) ∧ Kp w w' := by
  have HE := Lib.hid he
  have j1 : decide ((3000 : Int) < (s.length : Int)) = true := decide_eq_true (by omega)
  have j2 : decide (3000 < s.length) = true := decide_eq_true (by omega)
  clear he
  go_enter Tryz.func3, Tryz.ntmps3
  go_wp2_with fail
  refine (awake43_any _ (HE.out.kp (by (repeat (first | with_reducible assumption | with_reducible exact Kp.refl _ | with_reducible refine Kp.drew ?_ | with_reducible refine Kp.drewN ?_ _ | with_reducible refine Kp.alloc ?_ _ | ((with_reducible refine Kp.setCell ?_ ?_ _); rotate_left; (focus (first | omega | (simp; done) | (simp; omega)))) | with_reducible refine Kp.trans ?_ (by assumption)))))).mono ?_
  rintro e w1 ⟨rfl, k1⟩
  go_wp2_with fail
  (try go_ret)
  exact ⟨rfl, ((by (repeat (first | with_reducible assumption | with_reducible exact Kp.refl _ | with_reducible refine Kp.drew ?_ | with_reducible refine Kp.drewN ?_ _ | with_reducible refine Kp.alloc ?_ _ | ((with_reducible refine Kp.setCell ?_ ?_ _); rotate_left; (focus (first | omega | (simp; done) | (simp; omega)))) | with_reducible refine Kp.trans ?_ (by assumption)))) : Kp w _).trans k1⟩
theorem scriptReads_row (a : ByteArray) (w : World) (ha : a.size ≤ 140737488351232) (he : Env w) :
    Calls Tryz.prog 3 #[.string a] w fun e w' => e = .returned (.bool true) ∧ Kp w w' := by
  obtain ⟨⟨l⟩⟩ := a
  have hl : l.length ≤ 140737488351232 := ha
  by_cases h : 3000 < l.length
  · exact scriptReads_far l w he h (by omega)
  · exact scriptReads_main l w he (by omega)
end Go.Proofs.YtaekeogaakogbaaGreatDoor
