/- Sums of totals: the walks of total.Sum and of the reference's. -/
import Derived.Test.YtfiofmlfceknaaaTot2
import Derived.Test.YtfiofmlfceknaaaRefTotAdd
import Derived.Test.YtfiofmlfceknaaaHeld
import Derived.Test.YtfiofmlfceknaaaSl
namespace Go.Proofs.Ytfiofmlfceknaaa
open Go.RowKit

/-- Totals added from the left on; none: one does not fit. -/
def sums (s : Tot) : List Tot → Option Tot
  | [] => some s
  | t :: r => if Tot.fitsAdd s t = true then sums (Tot.sumAdd s t) r else none
theorem sums_append (l : List Tot) (t : Tot) : ∀ s, sums s (l ++ [t]) = (sums s l).bind fun x => if Tot.fitsAdd x t = true then some (Tot.sumAdd x t) else none := by
  induction l with
  | nil => intro s; simp only [List.nil_append, sums, Option.bind_some]
  | cons a r ih => intro s; simp only [List.cons_append, sums]; split
                   · exact ih _
                   · rfl
theorem sums_none (l r : List Tot) : ∀ s, sums s l = none → sums s (l ++ r) = none := by
  induction l with
  | nil => intro s h; simp [sums] at h
  | cons a l ih => intro s h; simp only [List.cons_append, sums] at h ⊢; split at h
                   · rename_i c; rw [if_pos c]; exact ih _ h
                   · rename_i c; rw [if_neg c]
theorem take_snoc {α : Type} {l : List α} {k : Nat} {x : α} (h : l[k]? = some x) : l.take (k + 1) = l.take k ++ [x] := by
  obtain ⟨hk, rfl⟩ := List.getElem?_eq_some_iff.1 h
  rw [List.take_succ_eq_append_getElem hk]
theorem sums_ok (l : List Tot) : ∀ s x : Tot, s.ok → sums s l = some x → x.ok := by
  induction l with
  | nil => intro s x hs h; simp only [sums, Option.some.injEq] at h; subst h; exact hs
  | cons a r ih => intro s x hs h; simp only [sums] at h; split at h
                   · exact ih _ _ (Tot.sumAdd_ok _ _) h
                   · cases h
theorem zero_ok : Tot.zero.ok := ⟨⟨by decide, by decide⟩, ⟨by decide, by decide⟩, ⟨by decide, by decide⟩, ⟨by decide, by decide⟩, ⟨by decide, by decide⟩, ⟨by decide, by decide⟩⟩

set_option maxRecDepth 100000 in
set_option maxHeartbeats 1000000 in
theorem totSum_any (a : Option Addr) (len cap : Nat) (l : List Tot) (w : World) (hl : SlOk w 6 Tot.cells a len cap l) (hok : ∀ x, x ∈ l → x.ok) :
    Calls Try.prog 34 #[.slice a len cap] w
      fun e w' => e = .returned (.tuple #[.agg #[.int .i64 ((sums Tot.zero l).getD Tot.zero).nat, .int .i64 ((sums Tot.zero l).getD Tot.zero).s0, .int .i64 ((sums Tot.zero l).getD Tot.zero).s1, .int .i64 ((sums Tot.zero l).getD Tot.zero).s2, .int .i64 ((sums Tot.zero l).getD Tot.zero).s3, .int .i64 ((sums Tot.zero l).getD Tot.zero).shr], .bool (sums Tot.zero l).isSome]) ∧ Kp w w' := by
  have hm := hl.2.2.1
  have hc := hl.2.1
  unfold maxLen at hm
  have HO := Lib.hid hok; clear hok
  go_enter Try.func34, Try.ntmps34
  go_wp2
  go_loopw [11] (fun v11 wr => ∃ (k : Nat) (s0 s1 s2 s3 s4 s5 : Int), k ≤ len ∧ v11 = .int .i64 k ∧ Blk wr w.heap.size (ints [0, 0, 0, 0, 0, 0]) 32 ∧ Blk wr (w.heap.size + 1) (ints [s0, s1, s2, s3, s4, s5]) 32 ∧ Kp w wr ∧ Hid (sums Tot.zero (l.take k) = some ⟨s0, s1, s2, s3, s4, s5⟩)) (fun v11 _ => len - (intOf v11).toNat)
  case atStart => exact ⟨0, 0, 0, 0, 0, 0, 0, by omega, rfl, (by (repeat (first | with_reducible assumption | ((with_reducible refine Blk.newL ?_ ?_); (focus (first | (simp; done) | omega)); rfl) | with_reducible refine Blk.drew ?_ | with_reducible refine Blk.drewN ?_ _ | with_reducible refine Blk.alloc ?_ _ | ((with_reducible refine Blk.other ?_ ?_ _); rotate_left; (focus (first | with_reducible assumption | omega | (simp; done) | (simp; omega))))))), (by (repeat (first | with_reducible assumption | ((with_reducible refine Blk.newL ?_ ?_); (focus (first | (simp; done) | omega)); rfl) | with_reducible refine Blk.drew ?_ | with_reducible refine Blk.drewN ?_ _ | with_reducible refine Blk.alloc ?_ _ | ((with_reducible refine Blk.other ?_ ?_ _); rotate_left; (focus (first | with_reducible assumption | omega | (simp; done) | (simp; omega))))))), (by (repeat (first | with_reducible assumption | with_reducible exact Kp.refl _ | with_reducible refine Kp.drew ?_ | with_reducible refine Kp.drewN ?_ _ | with_reducible refine Kp.alloc ?_ _ | ((with_reducible refine Kp.setCell ?_ ?_ _); rotate_left; (focus (first | omega | (simp; done) | (simp; omega)))) | with_reducible refine Kp.trans ?_ (by assumption)))), rfl⟩
  case round =>
    obtain ⟨k, s0, s1, s2, s3, s4, s5, hk, rfl, xr, xs, xk, hs⟩ := hrel
    have xl := hl.kp xk
    have HL := Lib.hid xl.1
    by_cases hlt : k < len
    · obtain ⟨x, hx⟩ : ∃ x, l[k]? = some x := ⟨l[k]'(by rw [xl.1]; exact hlt), List.getElem?_eq_getElem _⟩
      have HX := Lib.hid hx; clear hx
      rcases xl.2.2.2 with e | ⟨b, off, rfl, hb, hrow⟩
      · exact absurd (by rw [← xl.1, e]; rfl) (Nat.ne_of_gt (Nat.lt_of_le_of_lt (Nat.zero_le k) hlt))
      · obtain ⟨x0, x1, x2, x3, x4, x5⟩ := x
        have c0 : wr.cell? ⟨b, off + k * 6, none⟩ = some (.int .i64 x0) := hrow k _ HX.out 0 _ rfl
        have c1 : wr.cell? ⟨b, off + k * 6 + 1, none⟩ = some (.int .i64 x1) := hrow k _ HX.out 1 _ rfl
        have c2 : wr.cell? ⟨b, off + k * 6 + 2, none⟩ = some (.int .i64 x2) := hrow k _ HX.out 2 _ rfl
        have c3 : wr.cell? ⟨b, off + k * 6 + 3, none⟩ = some (.int .i64 x3) := hrow k _ HX.out 3 _ rfl
        have c4 : wr.cell? ⟨b, off + k * 6 + 4, none⟩ = some (.int .i64 x4) := hrow k _ HX.out 4 _ rfl
        have c5 : wr.cell? ⟨b, off + k * 6 + 5, none⟩ = some (.int .i64 x5) := hrow k _ HX.out 5 _ rfl
        have HT := Lib.hid (take_snoc HX.out)
        clear hrow
        have y0 := xs.cell 0 rfl; have y1 := xs.cell 1 rfl; have y2 := xs.cell 2 rfl; have y3 := xs.cell 3 rfl; have y4 := xs.cell 4 rfl; have y5 := xs.cell 5 rfl
        have y_ne := xs.lt
        have okx : (Tot.mk x0 x1 x2 x3 x4 x5).ok := HO.out _ (List.mem_of_getElem? HX.out)
        have oks : (Tot.mk s0 s1 s2 s3 s4 s5).ok := sums_ok _ _ _ zero_ok hs.out
        have hnext := sums_append (l.take k) ⟨x0, x1, x2, x3, x4, x5⟩ Tot.zero
        rw [hs.out, ← HT.out] at hnext
        simp only [Option.bind_some] at hnext
        have HN := Lib.hid hnext; clear hnext
        go_wp2_with fail
        refine (totAdd_any _ _ _ _ _ _ _ _ _ _ _ _ _ oks okx).mono ?_
        rintro e w1 ⟨rfl, k1⟩
        have zr : Blk w1 w.heap.size (ints [0, 0, 0, 0, 0, 0]) 32 := Blk.kp (by (repeat (first | with_reducible assumption | ((with_reducible refine Blk.newL ?_ ?_); (focus (first | (simp; done) | omega)); rfl) | with_reducible refine Blk.drew ?_ | with_reducible refine Blk.drewN ?_ _ | with_reducible refine Blk.alloc ?_ _ | ((with_reducible refine Blk.other ?_ ?_ _); rotate_left; (focus (first | with_reducible assumption | omega | (simp; done) | (simp; omega))))))) k1; have zr_0 := zr.cell 0 rfl; have zr_1 := zr.cell 1 rfl; have zr_2 := zr.cell 2 rfl; have zr_3 := zr.cell 3 rfl; have zr_4 := zr.cell 4 rfl; have zr_5 := zr.cell 5 rfl; have zr_ne := zr.lt; have zr_n1 := Nat.lt_add_one_of_lt zr_ne; have zr_n2 := Nat.lt_add_one_of_lt zr_n1; have zr_f0 := zr.free 0; have zr_f1 := zr.free 1; have zr_f2 := zr.free 2; have zr_f3 := zr.free 3; have zr_f4 := zr.free 4; have zr_f5 := zr.free 5
        have zs : Blk w1 (w.heap.size + 1) (ints [s0, s1, s2, s3, s4, s5]) 32 := Blk.kp (by (repeat (first | with_reducible assumption | ((with_reducible refine Blk.newL ?_ ?_); (focus (first | (simp; done) | omega)); rfl) | with_reducible refine Blk.drew ?_ | with_reducible refine Blk.drewN ?_ _ | with_reducible refine Blk.alloc ?_ _ | ((with_reducible refine Blk.other ?_ ?_ _); rotate_left; (focus (first | with_reducible assumption | omega | (simp; done) | (simp; omega))))))) k1; have zs_0 := zs.cell 0 rfl; have zs_1 := zs.cell 1 rfl; have zs_2 := zs.cell 2 rfl; have zs_3 := zs.cell 3 rfl; have zs_4 := zs.cell 4 rfl; have zs_5 := zs.cell 5 rfl; have zs_ne := zs.lt; have zs_n1 := Nat.lt_add_one_of_lt zs_ne; have zs_n2 := Nat.lt_add_one_of_lt zs_n1; have zs_f0 := zs.free 0; have zs_f1 := zs.free 1; have zs_f2 := zs.free 2; have zs_f3 := zs.free 3; have zs_f4 := zs.free 4; have zs_f5 := zs.free 5
        clear c0 c1 c2 c3 c4 c5 y0 y1 y2 y3 y4 y5 y_ne okx oks
        generalize hS : Tot.sumAdd ⟨s0, s1, s2, s3, s4, s5⟩ ⟨x0, x1, x2, x3, x4, x5⟩ = S
        have HS := Lib.hid hS; clear hS
        obtain ⟨t0, t1, t2, t3, t4, t5⟩ := S
        go_upto_if 22 with (fail)
        
        refine named_world (F := fun w2 => Blk w2 w.heap.size (ints [0, 0, 0, 0, 0, 0]) 32 ∧ Blk w2 (w.heap.size + 1) (ints [s0, s1, s2, s3, s4, s5]) 32 ∧ Blk w2 w1.heap.size (ints [t0, t1, t2, t3, t4, t5]) 32 ∧ Kp wr w2) ⟨(by (repeat (first | with_reducible assumption | ((with_reducible refine Blk.newL ?_ ?_); (focus (first | (simp; done) | omega)); rfl) | with_reducible refine Blk.drew ?_ | with_reducible refine Blk.drewN ?_ _ | with_reducible refine Blk.alloc ?_ _ | ((with_reducible refine Blk.other ?_ ?_ _); rotate_left; (focus (first | with_reducible assumption | omega | (simp; done) | (simp; omega))))))), (by (repeat (first | with_reducible assumption | ((with_reducible refine Blk.newL ?_ ?_); (focus (first | (simp; done) | omega)); rfl) | with_reducible refine Blk.drew ?_ | with_reducible refine Blk.drewN ?_ _ | with_reducible refine Blk.alloc ?_ _ | ((with_reducible refine Blk.other ?_ ?_ _); rotate_left; (focus (first | with_reducible assumption | omega | (simp; done) | (simp; omega))))))), (by (repeat (first | with_reducible assumption | ((with_reducible refine Blk.newL ?_ ?_); (focus (first | (simp; done) | omega)); rfl) | with_reducible refine Blk.drew ?_ | with_reducible refine Blk.drewN ?_ _ | with_reducible refine Blk.alloc ?_ _ | ((with_reducible refine Blk.other ?_ ?_ _); rotate_left; (focus (first | with_reducible assumption | omega | (simp; done) | (simp; omega))))))), (by (repeat (first | with_reducible assumption | with_reducible exact Kp.refl _ | with_reducible refine Kp.drew ?_ | with_reducible refine Kp.drewN ?_ _ | with_reducible refine Kp.alloc ?_ _ | ((with_reducible refine Kp.setCell ?_ ?_ _); rotate_left; (focus (first | omega | (simp; done) | (simp; omega)))) | with_reducible refine Kp.trans ?_ (by assumption))))⟩ ?_; clear zr zr_0 zr_1 zr_2 zr_3 zr_4 zr_5 zr_ne zr_n1 zr_n2 zr_f0 zr_f1 zr_f2 zr_f3 zr_f4 zr_f5 zs zs_0 zs_1 zs_2 zs_3 zs_4 zs_5 zs_ne zs_n1 zs_n2 zs_f0 zs_f1 zs_f2 zs_f3 zs_f4 zs_f5; rintro w2 ⟨zr, zs, zt, kw2⟩; have zr_0 := zr.cell 0 rfl; have zr_1 := zr.cell 1 rfl; have zr_2 := zr.cell 2 rfl; have zr_3 := zr.cell 3 rfl; have zr_4 := zr.cell 4 rfl; have zr_5 := zr.cell 5 rfl; have zr_ne := zr.lt; have zr_n1 := Nat.lt_add_one_of_lt zr_ne; have zr_n2 := Nat.lt_add_one_of_lt zr_n1; have zr_f0 := zr.free 0; have zr_f1 := zr.free 1; have zr_f2 := zr.free 2; have zr_f3 := zr.free 3; have zr_f4 := zr.free 4; have zr_f5 := zr.free 5; have zs_0 := zs.cell 0 rfl; have zs_1 := zs.cell 1 rfl; have zs_2 := zs.cell 2 rfl; have zs_3 := zs.cell 3 rfl; have zs_4 := zs.cell 4 rfl; have zs_5 := zs.cell 5 rfl; have zs_ne := zs.lt; have zs_n1 := Nat.lt_add_one_of_lt zs_ne; have zs_n2 := Nat.lt_add_one_of_lt zs_n1; have zs_f0 := zs.free 0; have zs_f1 := zs.free 1; have zs_f2 := zs.free 2; have zs_f3 := zs.free 3; have zs_f4 := zs.free 4; have zs_f5 := zs.free 5; have zt_0 := zt.cell 0 rfl; have zt_1 := zt.cell 1 rfl; have zt_2 := zt.cell 2 rfl; have zt_3 := zt.cell 3 rfl; have zt_4 := zt.cell 4 rfl; have zt_5 := zt.cell 5 rfl; have zt_ne := zt.lt; have zt_n1 := Nat.lt_add_one_of_lt zt_ne; have zt_n2 := Nat.lt_add_one_of_lt zt_n1
        cases hf : Tot.fitsAdd ⟨s0, s1, s2, s3, s4, s5⟩ ⟨x0, x1, x2, x3, x4, x5⟩ with
        | false =>
          have hn : sums Tot.zero l = none := by
            have h1 := HN.out
            rw [hf] at h1
            have h2 := sums_none _ (l.drop (k + 1)) _ h1
            rwa [List.take_append_drop] at h2
          have HE : Hid (Ending.returned (.tuple #[.agg #[.int .i64 0, .int .i64 0, .int .i64 0, .int .i64 0, .int .i64 0, .int .i64 0], .bool false]) = .returned (.tuple #[.agg #[.int .i64 ((sums Tot.zero l).getD Tot.zero).nat, .int .i64 ((sums Tot.zero l).getD Tot.zero).s0, .int .i64 ((sums Tot.zero l).getD Tot.zero).s1, .int .i64 ((sums Tot.zero l).getD Tot.zero).s2, .int .i64 ((sums Tot.zero l).getD Tot.zero).s3, .int .i64 ((sums Tot.zero l).getD Tot.zero).shr], .bool (sums Tot.zero l).isSome])) := by rw [hn]; rfl
          clear hn hf
          go_wp2
          refine ret_blkv (vs := [.int .i64 0, .int .i64 0, .int .i64 0, .int .i64 0, .int .i64 0, .int .i64 0]) (.tuple #[.agg #[.int .i64 0, .int .i64 0, .int .i64 0, .int .i64 0, .int .i64 0, .int .i64 0], .bool false]) (Blk.set (Blk.set (Blk.set (Blk.set (Blk.set (Blk.set zr 0 _) 1 _) 2 _) 3 _) 4 _) 5 _) ?_ rfl ⟨HE.out, (by (repeat (first | with_reducible assumption | with_reducible exact Kp.refl _ | with_reducible refine Kp.drew ?_ | with_reducible refine Kp.drewN ?_ _ | with_reducible refine Kp.alloc ?_ _ | ((with_reducible refine Kp.setCell ?_ ?_ _); rotate_left; (focus (first | omega | (simp; done) | (simp; omega)))) | with_reducible refine Kp.trans ?_ (by assumption))))⟩; intro wz bz; have z0 := bz.cell 0 rfl; have z1 := bz.cell 1 rfl; have z2 := bz.cell 2 rfl; have z3 := bz.cell 3 rfl; have z4 := bz.cell 4 rfl; have z5 := bz.cell 5 rfl; simp [results, Try.results34, go_sem, z0, z1, z2, z3, z4, z5]
        | true =>
          have HF := Lib.hid hf; clear hf
          go_wp2
          go_roundw
          case rel =>
            refine ⟨k + 1, t0, t1, t2, t3, t4, t5, by omega, by go_num, ?_, ?_, ?_, ?_⟩
            · (repeat (first | with_reducible assumption | ((with_reducible refine Blk.newL ?_ ?_); (focus (first | (simp; done) | omega)); rfl) | with_reducible refine Blk.drew ?_ | with_reducible refine Blk.drewN ?_ _ | with_reducible refine Blk.alloc ?_ _ | ((with_reducible refine Blk.other ?_ ?_ _); rotate_left; (focus (first | with_reducible assumption | omega | (simp; done) | (simp; omega))))))
            · exact (((((zs.set 0 _).set 1 _).set 2 _).set 3 _).set 4 _).set 5 _
            · exact (by (repeat (first | with_reducible assumption | with_reducible exact Kp.refl _ | with_reducible refine Kp.drew ?_ | with_reducible refine Kp.drewN ?_ _ | with_reducible refine Kp.alloc ?_ _ | ((with_reducible refine Kp.setCell ?_ ?_ _); rotate_left; (focus (first | omega | (simp; done) | (simp; omega)))) | with_reducible refine Kp.trans ?_ (by assumption))))
            · have h1 := HN.out
              rw [HF.out, HS.out, if_pos rfl] at h1
              exact h1
          case measure => simp [intOf]; omega
    · obtain rfl : k = len := by omega
      have hlast := hs.out
      rw [List.take_of_length_le (Nat.le_of_eq HL.out)] at hlast
      have HE : Hid (Ending.returned (.tuple #[.agg #[.int .i64 s0, .int .i64 s1, .int .i64 s2, .int .i64 s3, .int .i64 s4, .int .i64 s5], .bool true]) = .returned (.tuple #[.agg #[.int .i64 ((sums Tot.zero l).getD Tot.zero).nat, .int .i64 ((sums Tot.zero l).getD Tot.zero).s0, .int .i64 ((sums Tot.zero l).getD Tot.zero).s1, .int .i64 ((sums Tot.zero l).getD Tot.zero).s2, .int .i64 ((sums Tot.zero l).getD Tot.zero).s3, .int .i64 ((sums Tot.zero l).getD Tot.zero).shr], .bool (sums Tot.zero l).isSome])) := by rw [hlast]; rfl
      clear hlast
      have y0 := xs.cell 0 rfl; have y1 := xs.cell 1 rfl; have y2 := xs.cell 2 rfl; have y3 := xs.cell 3 rfl; have y4 := xs.cell 4 rfl; have y5 := xs.cell 5 rfl
      have f0 := xr.free 0; have f1 := xr.free 1; have f2 := xr.free 2; have f3 := xr.free 3; have f4 := xr.free 4; have f5 := xr.free 5
      have g0 := xr.cell 0 rfl; have g1 := xr.cell 1 rfl; have g2 := xr.cell 2 rfl; have g3 := xr.cell 3 rfl; have g4 := xr.cell 4 rfl; have g5 := xr.cell 5 rfl
      go_wp2
      refine ret_blkv (vs := [.int .i64 s0, .int .i64 s1, .int .i64 s2, .int .i64 s3, .int .i64 s4, .int .i64 s5]) (.tuple #[.agg #[.int .i64 s0, .int .i64 s1, .int .i64 s2, .int .i64 s3, .int .i64 s4, .int .i64 s5], .bool true]) (Blk.set (Blk.set (Blk.set (Blk.set (Blk.set (Blk.set xr 0 _) 1 _) 2 _) 3 _) 4 _) 5 _) ?_ rfl ⟨HE.out, (by (repeat (first | with_reducible assumption | with_reducible exact Kp.refl _ | with_reducible refine Kp.drew ?_ | with_reducible refine Kp.drewN ?_ _ | with_reducible refine Kp.alloc ?_ _ | ((with_reducible refine Kp.setCell ?_ ?_ _); rotate_left; (focus (first | omega | (simp; done) | (simp; omega)))) | with_reducible refine Kp.trans ?_ (by assumption))))⟩; intro wz bz; have z0 := bz.cell 0 rfl; have z1 := bz.cell 1 rfl; have z2 := bz.cell 2 rfl; have z3 := bz.cell 3 rfl; have z4 := bz.cell 4 rfl; have z5 := bz.cell 5 rfl; simp [results, Try.results34, go_sem, z0, z1, z2, z3, z4, z5]

set_option maxRecDepth 100000 in
set_option maxHeartbeats 1000000 in
theorem refTotSum_any (a : Option Addr) (len cap : Nat) (l : List Tot) (w : World) (hl : SlOk w 6 Tot.cells a len cap l) (hok : ∀ x, x ∈ l → x.ok) :
    Calls Try.prog 35 #[.slice a len cap] w
      fun e w' => e = .returned (.agg #[.int .i64 ((sums Tot.zero l).getD Tot.zero).nat, .int .i64 ((sums Tot.zero l).getD Tot.zero).s0, .int .i64 ((sums Tot.zero l).getD Tot.zero).s1, .int .i64 ((sums Tot.zero l).getD Tot.zero).s2, .int .i64 ((sums Tot.zero l).getD Tot.zero).s3, .int .i64 ((sums Tot.zero l).getD Tot.zero).shr, .bool (sums Tot.zero l).isSome]) ∧ Kp w w' := by
  have hm := hl.2.2.1
  have hc := hl.2.1
  unfold maxLen at hm
  have HO := Lib.hid hok; clear hok
  go_enter Try.func35, Try.ntmps35
  go_wp2
  go_loopw [4] (fun v4 wr => ∃ (k : Nat) (s0 s1 s2 s3 s4 s5 : Int) (o : Bool), k ≤ len ∧ v4 = .int .i64 k ∧ Blk wr w.heap.size (ints [0, 0, 0, 0, 0, 0] ++ [.bool false]) 41 ∧ Blk wr (w.heap.size + 1) (ints [s0, s1, s2, s3, s4, s5] ++ [.bool o]) 41 ∧ Kp w wr ∧ Hid (o = (sums Tot.zero (l.take k)).isSome ∧ (sums Tot.zero (l.take k)).getD Tot.zero = ⟨s0, s1, s2, s3, s4, s5⟩)) (fun v4 _ => len - (intOf v4).toNat)
  case atStart => exact ⟨0, 0, 0, 0, 0, 0, 0, true, by omega, rfl, (by (repeat (first | with_reducible assumption | ((with_reducible refine Blk.newL ?_ ?_); (focus (first | (simp; done) | omega)); rfl) | with_reducible refine Blk.drew ?_ | with_reducible refine Blk.drewN ?_ _ | with_reducible refine Blk.alloc ?_ _ | ((with_reducible refine Blk.other ?_ ?_ _); rotate_left; (focus (first | with_reducible assumption | omega | (simp; done) | (simp; omega))))))), (by (repeat (first | with_reducible assumption | ((with_reducible refine Blk.newL ?_ ?_); (focus (first | (simp; done) | omega)); rfl) | with_reducible refine Blk.drew ?_ | with_reducible refine Blk.drewN ?_ _ | with_reducible refine Blk.alloc ?_ _ | ((with_reducible refine Blk.other ?_ ?_ _); rotate_left; (focus (first | with_reducible assumption | omega | (simp; done) | (simp; omega))))))), (by (repeat (first | with_reducible assumption | with_reducible exact Kp.refl _ | with_reducible refine Kp.drew ?_ | with_reducible refine Kp.drewN ?_ _ | with_reducible refine Kp.alloc ?_ _ | ((with_reducible refine Kp.setCell ?_ ?_ _); rotate_left; (focus (first | omega | (simp; done) | (simp; omega)))) | with_reducible refine Kp.trans ?_ (by assumption)))), rfl, rfl⟩
  case round =>
    obtain ⟨k, s0, s1, s2, s3, s4, s5, o, hk, rfl, xr, xs, xk, hs⟩ := hrel
    have xl := hl.kp xk
    have HL := Lib.hid xl.1
    have y0 := xs.cell 0 rfl; have y1 := xs.cell 1 rfl; have y2 := xs.cell 2 rfl; have y3 := xs.cell 3 rfl; have y4 := xs.cell 4 rfl; have y5 := xs.cell 5 rfl; have y6 := xs.cell 6 rfl
    cases o with
    | false =>
      have hn : sums Tot.zero l = none := by
        obtain ⟨h1, h2⟩ := hs.out
        have h3 : sums Tot.zero (l.take k) = none := by
          cases h : sums Tot.zero (l.take k) with
          | none => rfl
          | some _ => rw [h] at h1; cases h1
        have h2 := sums_none _ (l.drop k) _ h3
        rwa [List.take_append_drop] at h2
      have hz : ⟨s0, s1, s2, s3, s4, s5⟩ = Tot.zero := by
        obtain ⟨h1, h2⟩ := hs.out
        cases h : sums Tot.zero (l.take k) with
        | none => rw [h] at h2; exact h2.symm
        | some _ => rw [h] at h1; cases h1
      have HE : Hid (Ending.returned (.agg #[.int .i64 s0, .int .i64 s1, .int .i64 s2, .int .i64 s3, .int .i64 s4, .int .i64 s5, .bool false]) = .returned (.agg #[.int .i64 ((sums Tot.zero l).getD Tot.zero).nat, .int .i64 ((sums Tot.zero l).getD Tot.zero).s0, .int .i64 ((sums Tot.zero l).getD Tot.zero).s1, .int .i64 ((sums Tot.zero l).getD Tot.zero).s2, .int .i64 ((sums Tot.zero l).getD Tot.zero).s3, .int .i64 ((sums Tot.zero l).getD Tot.zero).shr, .bool (sums Tot.zero l).isSome])) := by
        rw [hn]; simp only [Tot.zero, Tot.mk.injEq] at hz; obtain ⟨rfl, rfl, rfl, rfl, rfl, rfl⟩ := hz; rfl
      clear hn hz
      have f0 := xr.free 0; have f1 := xr.free 1; have f2 := xr.free 2; have f3 := xr.free 3; have f4 := xr.free 4; have f5 := xr.free 5; have f6 := xr.free 6
      have g0 := xr.cell 0 rfl; have g1 := xr.cell 1 rfl; have g2 := xr.cell 2 rfl; have g3 := xr.cell 3 rfl; have g4 := xr.cell 4 rfl; have g5 := xr.cell 5 rfl; have g6 := xr.cell 6 rfl
      by_cases hlt : k < len
      all_goals
        go_wp2
        refine ret_blk (vs := [.int .i64 s0, .int .i64 s1, .int .i64 s2, .int .i64 s3, .int .i64 s4, .int .i64 s5, .bool false]) (Blk.set (Blk.set (Blk.set (Blk.set (Blk.set (Blk.set (Blk.set xr 0 _) 1 _) 2 _) 3 _) 4 _) 5 _) 6 _) ?_ rfl ⟨HE.out, (by (repeat (first | with_reducible assumption | with_reducible exact Kp.refl _ | with_reducible refine Kp.drew ?_ | with_reducible refine Kp.drewN ?_ _ | with_reducible refine Kp.alloc ?_ _ | ((with_reducible refine Kp.setCell ?_ ?_ _); rotate_left; (focus (first | omega | (simp; done) | (simp; omega)))) | with_reducible refine Kp.trans ?_ (by assumption))))⟩; intro wz bz; have z0 := bz.cell 0 rfl; have z1 := bz.cell 1 rfl; have z2 := bz.cell 2 rfl; have z3 := bz.cell 3 rfl; have z4 := bz.cell 4 rfl; have z5 := bz.cell 5 rfl; have z6 := bz.cell 6 rfl; simp [results, Try.results35, go_sem, z0, z1, z2, z3, z4, z5, z6]
    | true =>
      have hsome : sums Tot.zero (l.take k) = some ⟨s0, s1, s2, s3, s4, s5⟩ := by
        obtain ⟨h1, h2⟩ := hs.out
        cases h : sums Tot.zero (l.take k) with
        | none => rw [h] at h1; cases h1
        | some y => rw [h] at h2; exact congrArg some h2
      have HM := Lib.hid hsome; clear hsome hs
      by_cases hlt : k < len
      · obtain ⟨x, hx⟩ : ∃ x, l[k]? = some x := ⟨l[k]'(by rw [xl.1]; exact hlt), List.getElem?_eq_getElem _⟩
        have HX := Lib.hid hx; clear hx
        rcases xl.2.2.2 with e | ⟨b, off, rfl, hb, hrow⟩
        · exact absurd (by rw [← xl.1, e]; rfl) (Nat.ne_of_gt (Nat.lt_of_le_of_lt (Nat.zero_le k) hlt))
        · obtain ⟨x0, x1, x2, x3, x4, x5⟩ := x
          have c0 : wr.cell? ⟨b, off + k * 6, none⟩ = some (.int .i64 x0) := hrow k _ HX.out 0 _ rfl
          have c1 : wr.cell? ⟨b, off + k * 6 + 1, none⟩ = some (.int .i64 x1) := hrow k _ HX.out 1 _ rfl
          have c2 : wr.cell? ⟨b, off + k * 6 + 2, none⟩ = some (.int .i64 x2) := hrow k _ HX.out 2 _ rfl
          have c3 : wr.cell? ⟨b, off + k * 6 + 3, none⟩ = some (.int .i64 x3) := hrow k _ HX.out 3 _ rfl
          have c4 : wr.cell? ⟨b, off + k * 6 + 4, none⟩ = some (.int .i64 x4) := hrow k _ HX.out 4 _ rfl
          have c5 : wr.cell? ⟨b, off + k * 6 + 5, none⟩ = some (.int .i64 x5) := hrow k _ HX.out 5 _ rfl
          have HT := Lib.hid (take_snoc HX.out)
          clear hrow
          have okx : (Tot.mk x0 x1 x2 x3 x4 x5).ok := HO.out _ (List.mem_of_getElem? HX.out)
          have oks : (Tot.mk s0 s1 s2 s3 s4 s5).ok := sums_ok _ _ _ zero_ok HM.out
          have hnext := sums_append (l.take k) ⟨x0, x1, x2, x3, x4, x5⟩ Tot.zero
          rw [HM.out, ← HT.out] at hnext
          simp only [Option.bind_some] at hnext
          have HN := Lib.hid hnext; clear hnext
          have OKX := Lib.hid okx; have OKS := Lib.hid oks; clear okx oks
          go_wp2
          go_region_with (first
            | (go_at_call 25; refine (refTotAdd_any _ _ _ _ _ _ _ _ _ _ _ _ _ OKS.out OKX.out).mono ?_; rintro e w' ⟨rfl, kk⟩; have zs := Blk.kp (xs.drew) kk; have z0 := zs.cell 0 rfl; have z1 := zs.cell 1 rfl; have z2 := zs.cell 2 rfl; have z3 := zs.cell 3 rfl; have z4 := zs.cell 4 rfl; have z5 := zs.cell 5 rfl; have z6 := zs.cell 6 rfl; have f0 := zs.free 0; have f1 := zs.free 1; have f2 := zs.free 2; have f3 := zs.free 3; have f4 := zs.free 4; have f5 := zs.free 5; have f6 := zs.free 6))
          all_goals
            have zr := Blk.kp (xr.drew) kk
            have zk := Kp.trans (xk.drew) kk
            clear c0 c1 c2 c3 c4 c5
            go_wp2
            go_roundw
            case rel =>
              refine ⟨k + 1, (Tot.sumAdd ⟨s0, s1, s2, s3, s4, s5⟩ ⟨x0, x1, x2, x3, x4, x5⟩).nat, (Tot.sumAdd ⟨s0, s1, s2, s3, s4, s5⟩ ⟨x0, x1, x2, x3, x4, x5⟩).s0, (Tot.sumAdd ⟨s0, s1, s2, s3, s4, s5⟩ ⟨x0, x1, x2, x3, x4, x5⟩).s1, (Tot.sumAdd ⟨s0, s1, s2, s3, s4, s5⟩ ⟨x0, x1, x2, x3, x4, x5⟩).s2, (Tot.sumAdd ⟨s0, s1, s2, s3, s4, s5⟩ ⟨x0, x1, x2, x3, x4, x5⟩).s3, (Tot.sumAdd ⟨s0, s1, s2, s3, s4, s5⟩ ⟨x0, x1, x2, x3, x4, x5⟩).shr, Tot.fitsAdd ⟨s0, s1, s2, s3, s4, s5⟩ ⟨x0, x1, x2, x3, x4, x5⟩, by omega, by go_num, ?_, ?_, ?_, ?_⟩
              · (repeat (first | with_reducible assumption | ((with_reducible refine Blk.newL ?_ ?_); (focus (first | (simp; done) | omega)); rfl) | with_reducible refine Blk.drew ?_ | with_reducible refine Blk.drewN ?_ _ | with_reducible refine Blk.alloc ?_ _ | ((with_reducible refine Blk.other ?_ ?_ _); rotate_left; (focus (first | with_reducible assumption | omega | (simp; done) | (simp; omega))))))
              · exact ((((((zs.set 0 _).set 1 _).set 2 _).set 3 _).set 4 _).set 5 _).set 6 _
              · exact (by (repeat (first | with_reducible assumption | with_reducible exact Kp.refl _ | with_reducible refine Kp.drew ?_ | with_reducible refine Kp.drewN ?_ _ | with_reducible refine Kp.alloc ?_ _ | ((with_reducible refine Kp.setCell ?_ ?_ _); rotate_left; (focus (first | omega | (simp; done) | (simp; omega)))) | with_reducible refine Kp.trans ?_ (by assumption))))
              · have h1 := HN.out
                cases hf : Tot.fitsAdd ⟨s0, s1, s2, s3, s4, s5⟩ ⟨x0, x1, x2, x3, x4, x5⟩ with
                | true => rw [hf, if_pos rfl] at h1; rw [h1]; exact ⟨rfl, rfl⟩
                | false => rw [hf, if_neg (by simp)] at h1; rw [h1]; exact ⟨rfl, by unfold Tot.sumAdd; rw [hf]; rfl⟩
            case measure => simp [intOf]; omega
      · obtain rfl : k = len := by omega
        have hlast := HM.out
        rw [List.take_of_length_le (Nat.le_of_eq HL.out)] at hlast
        have HE : Hid (Ending.returned (.agg #[.int .i64 s0, .int .i64 s1, .int .i64 s2, .int .i64 s3, .int .i64 s4, .int .i64 s5, .bool true]) = .returned (.agg #[.int .i64 ((sums Tot.zero l).getD Tot.zero).nat, .int .i64 ((sums Tot.zero l).getD Tot.zero).s0, .int .i64 ((sums Tot.zero l).getD Tot.zero).s1, .int .i64 ((sums Tot.zero l).getD Tot.zero).s2, .int .i64 ((sums Tot.zero l).getD Tot.zero).s3, .int .i64 ((sums Tot.zero l).getD Tot.zero).shr, .bool (sums Tot.zero l).isSome])) := by
          rw [hlast]; rfl
        clear hlast
        have f0 := xr.free 0; have f1 := xr.free 1; have f2 := xr.free 2; have f3 := xr.free 3; have f4 := xr.free 4; have f5 := xr.free 5; have f6 := xr.free 6
        have g0 := xr.cell 0 rfl; have g1 := xr.cell 1 rfl; have g2 := xr.cell 2 rfl; have g3 := xr.cell 3 rfl; have g4 := xr.cell 4 rfl; have g5 := xr.cell 5 rfl; have g6 := xr.cell 6 rfl
        go_wp2
        refine ret_blk (vs := [.int .i64 s0, .int .i64 s1, .int .i64 s2, .int .i64 s3, .int .i64 s4, .int .i64 s5, .bool true]) (Blk.set (Blk.set (Blk.set (Blk.set (Blk.set (Blk.set (Blk.set xr 0 _) 1 _) 2 _) 3 _) 4 _) 5 _) 6 _) ?_ rfl ⟨HE.out, (by (repeat (first | with_reducible assumption | with_reducible exact Kp.refl _ | with_reducible refine Kp.drew ?_ | with_reducible refine Kp.drewN ?_ _ | with_reducible refine Kp.alloc ?_ _ | ((with_reducible refine Kp.setCell ?_ ?_ _); rotate_left; (focus (first | omega | (simp; done) | (simp; omega)))) | with_reducible refine Kp.trans ?_ (by assumption))))⟩; intro wz bz; have z0 := bz.cell 0 rfl; have z1 := bz.cell 1 rfl; have z2 := bz.cell 2 rfl; have z3 := bz.cell 3 rfl; have z4 := bz.cell 4 rfl; have z5 := bz.cell 5 rfl; have z6 := bz.cell 6 rfl; simp [results, Try.results35, go_sem, z0, z1, z2, z3, z4, z5, z6]
end Go.Proofs.Ytfiofmlfceknaaa
