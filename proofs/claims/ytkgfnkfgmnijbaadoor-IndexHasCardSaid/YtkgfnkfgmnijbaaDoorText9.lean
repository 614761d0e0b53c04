/- The index as a text: the program's. -/
import Derived.Test.YtkgfnkfgmnijbaaDoorRuns2

namespace Go.Proofs.YtkgfnkfgmnijbaaDoor

open Go.RowKit

theorem ba_append' (l r : List UInt8) : (⟨l.toArray⟩ : ByteArray) ++ ⟨r.toArray⟩ = ⟨(l ++ r).toArray⟩ := by
  apply ByteArray.ext
  simp [ByteArray.data_append]
def runT (r : Rn) : List UInt8 := Lib.itoa r.f ++ if r.t = r.f then [] else 45 :: Lib.itoa r.t
theorem runT_short {r : Rn} (h : I64 r.f ∧ I64 r.t) : (runT r).length ≤ 43 := by
  unfold runT
  have h1 := itoa_short h.1
  have h2 := itoa_short h.2
  rw [List.length_append]
  split <;> simp <;> omega
set_option maxRecDepth 100000 in
set_option maxHeartbeats 2000000 in
theorem runText_any (r : Rn) (h : I64 r.f ∧ I64 r.t) (w : World) (he : Env w) :
    Calls Tryd.prog 22 #[.agg #[.int .i64 r.f, .int .i64 r.t]] w fun e w' => e = .returned (sv (runT r)) ∧ Kp w w' := by
  have HE := Lib.hid he
  obtain ⟨f, t⟩ := r
  simp only at h ⊢
  obtain ⟨hf, ht⟩ := h
  have C1 : Hid (∀ w', Env w' → Calls Tryd.prog 20 #[.int .i64 f] w' fun e w'' => e = .returned (sv (Lib.itoa f)) ∧ Kp w' w'') := Lib.hid fun w' h => itoaRun f hf w' h
  have C2 : Hid (∀ w', Env w' → Calls Tryd.prog 20 #[.int .i64 t] w' fun e w'' => e = .returned (sv (Lib.itoa t)) ∧ Kp w' w'') := Lib.hid fun w' h => itoaRun t ht w' h
  have h1 := itoa_short hf
  have h2 := itoa_short ht
  have HD : Hid (runT ⟨f, t⟩ = Lib.itoa f ++ if t = f then [] else 45 :: Lib.itoa t) := Lib.hid rfl
  obtain ⟨F, hF⟩ : ∃ F, Lib.itoa f = F := ⟨_, rfl⟩
  obtain ⟨T, hT⟩ : ∃ T, Lib.itoa t = T := ⟨_, rfl⟩
  rw [hF] at C1 h1 HD
  rw [hT] at C2 h2 HD
  have BA := @ba_append'
  clear he hF hT
  go_enter Tryd.func22, Tryd.ntmps22
  go_wp2_with fail
  refine (C1.out _ (HE.out.kp (by (repeat (first | with_reducible assumption | with_reducible exact Kp.refl _ | with_reducible refine Kp.drew ?_ | with_reducible refine Kp.drewN ?_ _ | with_reducible refine Kp.alloc ?_ _ | ((with_reducible refine Kp.setCell ?_ ?_ _); rotate_left; (focus (first | omega | (simp; done) | (simp; omega)))) | with_reducible refine Kp.trans ?_ (by assumption)))))).mono ?_
  rintro e w1 ⟨rfl, k1⟩
  have bp : Blk w1 w.heap.size [.int .i64 f, .int .i64 t] 33 := Blk.kp (by (repeat (first | with_reducible assumption | ((with_reducible refine Blk.newL ?_ ?_); (focus (first | (simp; done) | omega)); rfl) | with_reducible refine Blk.drew ?_ | with_reducible refine Blk.drewN ?_ _ | with_reducible refine Blk.alloc ?_ _ | ((with_reducible refine Blk.other ?_ ?_ _); rotate_left; (focus (first | with_reducible assumption | omega | (simp; done) | (simp; omega))))))) k1
  have c0 := bp.cell 0 rfl
  have c1 := bp.cell 1 rfl
  have kw1 : Kp w w1 := Kp.trans (by (repeat (first | with_reducible assumption | with_reducible exact Kp.refl _ | with_reducible refine Kp.drew ?_ | with_reducible refine Kp.drewN ?_ _ | with_reducible refine Kp.alloc ?_ _ | ((with_reducible refine Kp.setCell ?_ ?_ _); rotate_left; (focus (first | omega | (simp; done) | (simp; omega)))) | with_reducible refine Kp.trans ?_ (by assumption)))) k1
  clear k1
  by_cases hft : t = f
  · subst hft
    have hd := HD.out
    rw [if_pos rfl, List.append_nil] at hd
    go_wp2_with fail
    (try go_ret)
    exact ⟨by rw [hd]; rfl, kw1⟩
  · have e1 : (t == f) = false := by simpa using hft
    have e2 : (t != f) = true := by simp [bne, e1]
    have hd := HD.out
    rw [if_neg hft] at hd
    have HD2 := Lib.hid hd
    have hc1 : ¬ 9223372036854775807 < T.length + 1 := by omega
    have hc2 : ¬ 9223372036854775807 < F.length + (T.length + 1) := by omega
    clear hd
    go_wp2_with fail
    refine (C2.out _ (HE.out.kp kw1)).mono ?_
    rintro e w2 ⟨rfl, k2⟩
    have kw2 := kw1.trans k2
    go_wp2_with fail
    (try go_ret)
    exact ⟨by rw [HD2.out]; rfl, kw2⟩
/-- An entry: its mark, its pages. -/
structure Ent where
  n : Int
  s : SlV Int
def Ent.cells (x : Ent) : List Value := [.int .i64 x.n, .slice x.s.a x.s.len x.s.cap]
structure Ent.good (w : World) (x : Ent) : Prop where
  n : I64 x.n
  s : SlOk w 1 enc1 x.s.a x.s.l.length x.s.cap x.s.l
  len : x.s.len = x.s.l.length
  few : x.s.l.length ≤ 1000
  ok : ∀ p, p ∈ x.s.l → I64 p ∧ p ≠ 9223372036854775807
theorem Ent.good.kp {w w' : World} {x : Ent} (h : x.good w) (k : Kp w w') : x.good w' := ⟨h.n, h.s.kp k, h.len, h.few, h.ok⟩
def runN (r : Rn) : List UInt8 := 32 :: runT r
def entT (x : Ent) : List UInt8 := Lib.itoa x.n ++ [58] ++ (runsL x.s.l).flatMap runN ++ [10]
def textL (l : List Ent) : List UInt8 := l.flatMap entT
theorem flat_snoc9 {α β : Type} {f : α → List β} {l : List α} {k : Nat} {x : α} (h : l[k]? = some x) : (l.take (k + 1)).flatMap f = (l.take k).flatMap f ++ f x := by
  rw [List.take_add_one, h, List.flatMap_append]; simp
theorem flat_bound9 {α β : Type} {f : α → List β} {C : Nat} : ∀ {l : List α}, (∀ x, x ∈ l → (f x).length ≤ C) → (l.flatMap f).length ≤ l.length * C
  | [], _ => by simp
  | x :: l, h => by
    rw [List.flatMap_cons, List.length_append, List.length_cons, Nat.add_mul, Nat.one_mul]
    have h1 := h x List.mem_cons_self
    have h2 := flat_bound9 (l := l) (C := C) (f := f) fun y hy => h y (List.mem_cons_of_mem _ hy)
    omega
theorem runs_ok {w : World} {x : Ent} (h : x.good w) : ∀ r, r ∈ runsL x.s.l → I64 r.f ∧ I64 r.t := fun r hr => by
  have := runs_in (P := fun x => I64 x ∧ x ≠ 9223372036854775807) x.s.l [] (fun r hr => by cases hr) h.ok r hr
  exact ⟨this.1.1, this.2.1⟩
theorem runs_few {w : World} {x : Ent} (h : x.good w) : (runsL x.s.l).length ≤ 1000 := by
  have := runs_length x.s.l []
  have h2 := h.few
  unfold runsL
  simp at this
  omega
theorem entT_short {w : World} {x : Ent} (h : x.good w) : (entT x).length ≤ 44100 := by
  unfold entT
  have h1 := itoa_short h.n
  have h2 := flat_bound9 (C := 44) (f := runN) (l := runsL x.s.l) fun r hr => by have := runT_short (runs_ok h r hr); unfold runN; simp; omega
  have h3 := runs_few h
  simp only [List.length_append, List.length_singleton]
  omega
theorem Row.wr {α : Type} {w w' : World} {base n : Nat} {e : TypeId} {enc : α → List Value} {v : Value} {l : List α} {B b : Nat} (h : Row w base e n enc v l) (he : e ≠ 5) (hb : b < base) (k : Wr B b w w') : Row w' base e n enc v l := by
  refine ⟨h.1, ?_⟩
  rcases h.2 with hh | ⟨g, cap, cur, rfl, hg, hgg, rest⟩
  · exact .inl hh
  · exact .inr ⟨g, cap, cur, rfl, hg, k.2 g _ _ _ hgg he (by omega), rest⟩
theorem ne_sz9 {a b : Nat} (h : a < b) : b ≠ a := by omega
set_option maxRecDepth 100000 in
set_option maxHeartbeats 4000000 in
theorem text_any (a : Option Addr) (cap : Nat) (l : List Ent) (w : World) (he : Env w) (hl : SlOk w 2 Ent.cells a l.length cap l) (hg : ∀ y, y ∈ l → y.good w) (hn : l.length ≤ 1000) :
    Calls Tryd.prog 10 #[.slice a l.length cap] w fun e w' => e = .returned (sv (textL l)) ∧ Kp w w' := by
  have HE := Lib.hid he
  have HL := Lib.hid hl
  have HG := Lib.hid hg
  have HP : Hid (∀ k, ((l.take k).flatMap entT).length ≤ 44100000) := Lib.hid (fun k => by
    have := flat_bound9 (C := 44100) (f := entT) (l := l.take k) fun x hx => entT_short (HG.out x (List.mem_of_mem_take hx))
    rw [List.length_take] at this
    have : min k l.length ≤ 1000 := by omega
    omega)
  have hcl := hl.2.1
  have hcm := hl.2.2.1
  unfold maxLen at hcm
  clear he hl hg
  go_enter Tryd.func10, Tryd.ntmps10
  go_wp2_with fail
  go_loopw [10] (fun v10 wr => ∃ (k : Nat), k ≤ l.length ∧ v10 = .int .i64 k ∧ Bld w.heap.size w.heap.size ((l.take k).flatMap entT) wr ∧ Kp w wr) (fun v10 _ => l.length - (intOf v10).toNat)
  case atStart => exact ⟨0, Nat.zero_le _, rfl, by simpa using Bld.new w, (by (repeat (first | with_reducible assumption | with_reducible exact Kp.refl _ | with_reducible refine Kp.drew ?_ | with_reducible refine Kp.drewN ?_ _ | with_reducible refine Kp.alloc ?_ _ | ((with_reducible refine Kp.setCell ?_ ?_ _); rotate_left; (focus (first | omega | (simp; done) | (simp; omega)))) | with_reducible refine Kp.trans ?_ (by assumption))))⟩
  case round =>
    obtain ⟨k, hk, rfl, xb, xk⟩ := hrel
    have hb := xb.lt
    have hT := HP.out k
    obtain ⟨T, hTe⟩ : ∃ T, (l.take k).flatMap entT = T := ⟨_, rfl⟩
    rw [hTe] at xb hT
    by_cases hlt : k < l.length
    · obtain ⟨x, hx⟩ : ∃ x, l[k]? = some x := ⟨l[k]'hlt, List.getElem?_eq_getElem _⟩
      have hsn := flat_snoc9 (f := entT) hx
      have hgx := HG.out x (List.mem_of_getElem? hx)
      rw [hTe] at hsn
      have tl := HL.out.kp xk
      rcases tl.2.2.2 with e | ⟨ga, oa, rfl, hga, r1⟩
      · rw [e] at hlt; simp at hlt
      have hrf := runs_few hgx
      have hro := runs_ok hgx
      have hit := itoa_short hgx.n
      have hen : entT x = Lib.itoa x.n ++ [58] ++ (runsL x.s.l).flatMap runN ++ [10] := rfl
      obtain ⟨xn, ⟨sa, sl, sc, ss⟩⟩ := x
      have d0 := r1 k _ hx 0 _ rfl
      have d1 := r1 k _ hx 1 _ rfl
      have hsl := hgx.len
      simp only [Nat.add_zero] at d0 d1 hit hen hrf hro hsl
      subst hsl
      have C1 : Hid (∀ w', Kp w w' → Calls Tryd.prog 20 #[.int .i64 xn] w' fun e w'' => e = .returned (sv (Lib.itoa xn)) ∧ Kp w' w'') := Lib.hid fun w' k => itoaRun xn hgx.n w' (HE.out.kp k)
      have C2 : Hid (∀ w', Kp w w' → Calls Tryd.prog 8 #[.slice sa ss.length sc] w' fun e w'' => ∃ v, e = .returned v ∧ Row w'' w'.heap.size 33 2 encR v (runsL ss) ∧ Kp w' w'') := Lib.hid fun w' k => runs_any sa sc ss w' (hgx.s.kp k) (by have := hgx.few; simp only at this; omega) hgx.ok
      obtain ⟨I, hI⟩ : ∃ I, Lib.itoa xn = I := ⟨_, rfl⟩
      obtain ⟨rs, hrs⟩ : ∃ I, runsL ss = I := ⟨_, rfl⟩
      rw [hI] at C1 hit hen
      rw [hrs] at C2 hrf hro hen
      rw [hen] at hsn
      have HSN := Lib.hid hsn
      have HRO := Lib.hid hro
      have XB := Lib.hid xb
      have j1 : decide ((k : Int) < (l.length : Int)) = true := decide_eq_true (by omega)
      clear tl r1 hx hsn hgx hI hrs hen hro xb hTe
      obtain ⟨wa, rfl⟩ : ∃ u, u = wr := ⟨_, rfl⟩
      go_wp2_with fail
      refine (C1.out _ (by (repeat (first | with_reducible assumption | with_reducible exact Kp.refl _ | with_reducible refine Kp.drew ?_ | with_reducible refine Kp.drewN ?_ _ | with_reducible refine Kp.alloc ?_ _ | ((with_reducible refine Kp.setCell ?_ ?_ _); rotate_left; (focus (first | omega | (simp; done) | (simp; omega)))) | with_reducible refine Kp.trans ?_ (by assumption))))).mono ?_
      rintro e w1 ⟨rfl, k1⟩
      have bp : Blk w1 wa.heap.size [.int .i64 xn, .slice sa ss.length sc] 26 := Blk.kp (by (repeat (first | with_reducible assumption | ((with_reducible refine Blk.newL ?_ ?_); (focus (first | (simp; done) | omega)); rfl) | with_reducible refine Blk.drew ?_ | with_reducible refine Blk.drewN ?_ _ | with_reducible refine Blk.alloc ?_ _ | ((with_reducible refine Blk.other ?_ ?_ _); rotate_left; (focus (first | with_reducible assumption | omega | (simp; done) | (simp; omega))))))) k1
      have kw1 : Kp wa w1 := Kp.trans (by (repeat (first | with_reducible assumption | with_reducible exact Kp.refl _ | with_reducible refine Kp.drew ?_ | with_reducible refine Kp.drewN ?_ _ | with_reducible refine Kp.alloc ?_ _ | ((with_reducible refine Kp.setCell ?_ ?_ _); rotate_left; (focus (first | omega | (simp; done) | (simp; omega)))) | with_reducible refine Kp.trans ?_ (by assumption)))) k1
      have xb1 := XB.out.kp kw1
      have xk1 := xk.trans kw1
      clear k1 XB kw1 xk C1 d0 d1
      go_wp2_with fail
      refine (putString _ _ _ _ _ xb1 (by omega)).mono ?_
      rintro e w2 ⟨⟨v2, rfl⟩, h2, b2⟩
      have bp2 := bp.wr (by decide) (ne_sz9 hb) b2
      have xk2 := b2.kp xk1 (Nat.le_refl _)
      clear bp xb1 xk1
      go_wp2_with fail
      refine (putByte _ _ _ 58 58 rfl _ h2 (by simp only [List.length_append]; omega)).mono ?_
      rintro e w3 ⟨⟨v3, rfl⟩, h3, b3⟩
      have bp3 := bp2.wr (by decide) (ne_sz9 hb) b3
      have xk3 := b3.kp xk2 (Nat.le_refl _)
      have c1 := bp3.cell 1 rfl
      clear bp2 xk2 h2 b2
      go_wp2_with fail
      refine (C2.out _ xk3).mono ?_
      rintro e w4 ⟨v4, rfl, hr4, k4⟩
      have xk4 := xk3.trans k4
      have h4 := h3.kp k4
      obtain ⟨fa, fc, rfl, hfs⟩ := hr4.sl (fun _ => rfl)
      have hfc := hfs.2.1
      have hfm := hfs.2.2.1
      unfold maxLen at hfm
      have hb4 : w.heap.size < w3.heap.size := h3.lt
      have HR4 := Lib.hid hr4
      clear bp3 xk3 h3 b3 c1 C2 k4 hr4 hfs
      obtain ⟨A, hA⟩ : ∃ A, T ++ I ++ [58] = A := ⟨_, rfl⟩
      have hAl : A.length ≤ 44100022 := by rw [← hA]; simp only [List.length_append, List.length_singleton]; omega
      rw [hA] at h4
      go_wp2_with fail
      go_loopw [23] (fun v23 wr' => ∃ (q : Nat), q ≤ rs.length ∧ v23 = .int .i64 q ∧ Bld w.heap.size w.heap.size (A ++ (rs.take q).flatMap runN) wr' ∧ Row wr' w3.heap.size 33 2 encR (.slice fa rs.length fc) rs ∧ Kp w wr') (fun v23 _ => rs.length - (intOf v23).toNat)
      case atStart => exact ⟨0, Nat.zero_le _, rfl, by simpa using h4, HR4.out, xk4⟩
      case round =>
        clear h4 xk4 HR4
        obtain ⟨q, hq, rfl, yb, yr, yk⟩ := hrel
        have hyb := yb.lt
        have hfl := flat_bound9 (C := 44) (f := runN) (l := rs.take q) fun r hr => by have := runT_short (HRO.out r (List.mem_of_mem_take hr)); unfold runN; simp; omega
        rw [List.length_take] at hfl
        have hfl2 : ((rs.take q).flatMap runN).length ≤ 44000 := by have : min q rs.length ≤ 1000 := by omega
                                                                    omega
        obtain ⟨V, hV⟩ : ∃ V, (rs.take q).flatMap runN = V := ⟨_, rfl⟩
        obtain ⟨A2, hA2⟩ : ∃ V2, A ++ V = V2 := ⟨_, rfl⟩
        rw [hV] at hfl2
        have hA2l : A2.length ≤ 44144022 := by rw [← hA2, List.length_append]; omega
        rw [hV, hA2] at yb
        clear hfl
        by_cases hlt2 : q < rs.length
        · obtain ⟨r, hr⟩ : ∃ x, rs[q]? = some x := ⟨rs[q]'hlt2, List.getElem?_eq_getElem _⟩
          have hrn := flat_snoc9 (f := runN) hr
          have hro2 := HRO.out r (List.mem_of_getElem? hr)
          have hrs2 := runT_short hro2
          obtain ⟨g, c', hv, _⟩ := yr.shape (by omega)
          simp only [Value.slice.injEq] at hv
          obtain ⟨rfl, _, rfl⟩ := hv
          have c0 := Row.cellN (enc := encR) (n := 2) (fun _ => rfl) yr rfl hr (j := 0) rfl
          have c1 := Row.cellN (enc := encR) (n := 2) (fun _ => rfl) yr rfl hr (j := 1) rfl
          simp only [Nat.add_zero] at c0 c1
          have C3 : Hid (∀ w', Kp w w' → Calls Tryd.prog 22 #[.agg #[.int .i64 r.f, .int .i64 r.t]] w' fun e w'' => e = .returned (sv (runT r)) ∧ Kp w' w'') := Lib.hid fun w' k => runText_any r hro2 w' (HE.out.kp k)
          have hrd : runN r = 32 :: runT r := rfl
          obtain ⟨R, hR⟩ : ∃ R, runT r = R := ⟨_, rfl⟩
          rw [hR] at C3 hrs2 hrd
          rw [hV, hrd] at hrn
          obtain ⟨rf, rt⟩ := r
          simp only at c0 c1 C3
          have hnx : A ++ (rs.take (q + 1)).flatMap runN = A2 ++ [32] ++ R := by rw [hrn, ← List.append_assoc, hA2]; simp
          have HNX := Lib.hid hnx
          have YB := Lib.hid yb
          have YR := Lib.hid yr
          have j2 : decide ((q : Int) < (rs.length : Int)) = true := decide_eq_true (by omega)
          clear hr hrn hro2 hR hrd hnx yb yr hV hA2
          go_wp2_with fail
          have kz : Kp wr (wr.alloc (.cells #[.int .i64 rf, .int .i64 rt] 33)) := (by (repeat (first | with_reducible assumption | with_reducible exact Kp.refl _ | with_reducible refine Kp.drew ?_ | with_reducible refine Kp.drewN ?_ _ | with_reducible refine Kp.alloc ?_ _ | ((with_reducible refine Kp.setCell ?_ ?_ _); rotate_left; (focus (first | omega | (simp; done) | (simp; omega)))) | with_reducible refine Kp.trans ?_ (by assumption))))
          have bz : Blk (wr.alloc (.cells #[.int .i64 rf, .int .i64 rt] 33)) wr.heap.size [.int .i64 rf, .int .i64 rt] 33 := (by (repeat (first | with_reducible assumption | ((with_reducible refine Blk.newL ?_ ?_); (focus (first | (simp; done) | omega)); rfl) | with_reducible refine Blk.drew ?_ | with_reducible refine Blk.drewN ?_ _ | with_reducible refine Blk.alloc ?_ _ | ((with_reducible refine Blk.other ?_ ?_ _); rotate_left; (focus (first | with_reducible assumption | omega | (simp; done) | (simp; omega)))))))
          refine (putByte _ _ _ 32 32 rfl _ (YB.out.kp kz) (by omega)).mono ?_
          rintro e w5 ⟨⟨v5, rfl⟩, h5, b5⟩
          have bz5 := bz.wr (by decide) (ne_sz9 hyb) b5
          have yk5 := b5.kp (yk.trans kz) (Nat.le_refl _)
          have yr5 := (YR.out.kp kz).wr (by decide) hb4 b5
          have c3 := bz5.cell 0 rfl
          have c4 := bz5.cell 1 rfl
          clear kz bz YB YR c0 c1
          go_wp2_with fail
          refine (C3.out _ yk5).mono ?_
          rintro e w6 ⟨rfl, k6⟩
          have h6 := h5.kp k6
          have yk6 := yk5.trans k6
          have yr6 := yr5.kp k6
          clear h5 yk5 yr5 k6 C3 bz5 c3 c4 b5
          go_wp2_with fail
          refine (putString _ _ _ _ _ h6 (by simp only [List.length_append, List.length_singleton]; omega)).mono ?_
          rintro e w7 ⟨⟨v7, rfl⟩, h7, b7⟩
          have yk7 := b7.kp yk6 (Nat.le_refl _)
          have yr7 := yr6.wr (by decide) hb4 b7
          go_wp2_with fail
          go_roundw
          case rel => exact ⟨q + 1, by omega, by go_num, by rw [HNX.out]; exact h7, yr7, yk7⟩
          case measure => simp [intOf]; omega
        · obtain rfl : q = rs.length := by omega
          have j2 : decide ((rs.length : Int) < (rs.length : Int)) = false := decide_eq_false (by omega)
          rw [List.take_length] at hV
          have hnx : (l.take (k + 1)).flatMap entT = A2 ++ [10] := by rw [HSN.out, hV, ← hA2, ← hA]; simp [List.append_assoc]
          have HNX := Lib.hid hnx
          clear hnx hV hA2 yr
          go_wp2_with fail
          refine (putByte _ _ _ 10 10 rfl _ yb (by omega)).mono ?_
          rintro e w5 ⟨⟨v5, rfl⟩, h5, b5⟩
          have yk5 := b5.kp yk (Nat.le_refl _)
          go_wp2_with fail
          go_roundw
          case rel => exact ⟨k + 1, by omega, by go_num, by rw [HNX.out]; exact h5, yk5⟩
          case measure => simp [intOf]; omega
    · obtain rfl : k = l.length := by omega
      have j1 : decide ((l.length : Int) < (l.length : Int)) = false := decide_eq_false (by omega)
      rw [List.take_length] at hTe
      go_wp2_with fail
      refine (getString _ _ _ _ xb).mono ?_
      rintro e w2 ⟨rfl, b2⟩
      have k2 : Kp w w2 := Below.trans xk b2
      clear b2
      go_wp2_with fail
      go_ret
      exact ⟨by unfold textL; rw [hTe]; rfl, k2⟩
end Go.Proofs.YtkgfnkfgmnijbaaDoor
