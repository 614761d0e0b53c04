/- Package wide: products that are divided. -/
import Derived.Test.YtepckgcbncdibaaDiv64
import Derived.Test.YtepckgcbncdibaaFlat
import Derived.Laws.Externs
namespace Go.Proofs.Ytepckgcbncdibaa
open Go.RowKit

theorem div64_any (hi lo y : Nat) (hy : hi < y) (w : World) (hyb : y < 18446744073709551616) (hlo : lo < 18446744073709551616) :
    Calls Try.prog 84 #[.int .u64 hi, .int .u64 lo, .int .u64 y] w fun e w' => e = .returned (.tuple #[.int .u64 (((hi * 18446744073709551616 + lo) / y : Nat) : Int), .int .u64 (((hi * 18446744073709551616 + lo) % y : Nat) : Int)]) ∧ Kp w w' := by
  rcases Nat.eq_zero_or_pos hi with h | h
  · subst h
    rw [Nat.zero_mul, Nat.zero_add]
    exact div64_zero lo y hy w hyb hlo
  · exact div64_high hi lo y h hy w hyb hlo

/-- Two words as a value. -/
def num (h l : Nat) : Value := .agg #[.int .u64 (h : Int), .int .u64 (l : Int)]
def nums (h l : Nat) : List Value := [.int .u64 (h : Int), .int .u64 (l : Int)]

theorem wideMul_any (x y : Nat) (hx : x < 18446744073709551616) (hy : y < 18446744073709551616) (w : World) :
    Calls Try.prog 55 #[.int .u64 x, .int .u64 y] w fun e w' => e = .returned (num (x * y / 18446744073709551616) (x * y % 18446744073709551616)) ∧ Kp w w' := by
  unfold num
  go_enter Try.func55, Try.ntmps55
  go_wp2_with (go_at_call 76; refine (Try.bits_Mul64 x y hx hy _).mono ?_; rintro e w' ⟨rfl, hw⟩; rw [hw])
  exact bodyPost_ret (v := .agg #[.int .u64 ((x * y / 18446744073709551616 : Nat) : Int), .int .u64 ((x * y % 18446744073709551616 : Nat) : Int)]) (by simp [results, Try.results55, go_sem]) rfl ⟨rfl, (by (repeat (first | with_reducible assumption | with_reducible exact Kp.refl _ | with_reducible refine Kp.drew ?_ | with_reducible refine Kp.drewN ?_ _ | with_reducible refine Kp.alloc ?_ _ | ((with_reducible refine Kp.setCell ?_ ?_ _); rotate_left; (focus (first | omega | (simp; done) | (simp; omega)))) | with_reducible refine Kp.trans ?_ (by assumption))))⟩

theorem add64_run (x y c : Nat) (hc : c ≤ 1) (w : World) :
    (callFunc 83 #[.int .u64 x, .int .u64 y, .int .u64 c]).run Try.prog w =
      .ok (.value (.tuple #[.int .u64 (((x + y + c) % 18446744073709551616 : Nat) : Int), .int .u64 (((x + y + c) / 18446744073709551616 : Nat) : Int)])) w := by
  rw [run_callFunc_extern Try.func83 (by kernel_rfl) (by kernel_rfl) (by kernel_rfl) (e := add64Entry) (by kernel_rfl), run_add64 x y c (by omega) (by omega) (by omega) (by omega)]
  simp only [Result.andThen]
  congr 5 <;> omega

set_option maxHeartbeats 1000000 in
theorem numAdd_any (a1 a0 b1 b0 : Nat) (h1 : a1 < 18446744073709551616) (h0 : a0 < 18446744073709551616) (g1 : b1 < 18446744073709551616) (g0 : b0 < 18446744073709551616) (w : World) :
    Calls Try.prog 50 #[num a1 a0, num b1 b0] w fun e w' => e = .returned (if a1 + b1 + (a0 + b0) / 18446744073709551616 < 18446744073709551616 then .tuple #[num (a1 + b1 + (a0 + b0) / 18446744073709551616) ((a0 + b0) % 18446744073709551616), .bool true] else .tuple #[num 0 0, .bool false]) ∧ Kp w w' := by
  unfold num
  obtain ⟨l, hl⟩ : ∃ l : Nat, (a0 + b0 + 0) % 18446744073709551616 = l := ⟨_, rfl⟩
  obtain ⟨c, hc⟩ : ∃ c : Nat, (a0 + b0 + 0) / 18446744073709551616 = c := ⟨_, rfl⟩
  obtain ⟨h, hh⟩ : ∃ h : Nat, (a1 + b1 + c) % 18446744073709551616 = h := ⟨_, rfl⟩
  obtain ⟨o, ho⟩ : ∃ o : Nat, (a1 + b1 + c) / 18446744073709551616 = o := ⟨_, rfl⟩
  have hc1 : c ≤ 1 := by omega
  have r1 : ∀ w : World, (callFunc 83 #[.int .u64 a0, .int .u64 b0, .int .u64 0]).run Try.prog w = .ok (.value (.tuple #[.int .u64 (l : Int), .int .u64 (c : Int)])) w := fun w => by
    have h := add64_run a0 b0 0 (by omega) w
    rw [hl, hc] at h; exact h
  have r2 : ∀ w : World, (callFunc 83 #[.int .u64 a1, .int .u64 b1, .int .u64 (c : Int)]).run Try.prog w = .ok (.value (.tuple #[.int .u64 (h : Int), .int .u64 (o : Int)])) w := fun w => by
    have h := add64_run a1 b1 c hc1 w
    rw [hh, ho] at h; exact h
  rw [Nat.add_zero] at hl hc
  rw [hl, hc]
  by_cases hf : a1 + b1 + c < 18446744073709551616
  · rw [if_pos hf]
    have e1 : a1 + b1 + c = h := by omega
    have e2 : o = 0 := by omega
    rw [e1]
    subst e2
    clear e1 hl hc hh ho
    go_enter Try.func50, Try.ntmps50
    go_wp2
    exact bodyPost_ret (v := .tuple #[.agg #[.int .u64 (h : Int), .int .u64 (l : Int)], .bool true]) (by simp [results, Try.results50, go_sem]) rfl ⟨rfl, (by (repeat (first | with_reducible assumption | with_reducible exact Kp.refl _ | with_reducible refine Kp.drew ?_ | with_reducible refine Kp.drewN ?_ _ | with_reducible refine Kp.alloc ?_ _ | ((with_reducible refine Kp.setCell ?_ ?_ _); rotate_left; (focus (first | omega | (simp; done) | (simp; omega)))) | with_reducible refine Kp.trans ?_ (by assumption))))⟩
  · rw [if_neg hf]
    have e2 : o = 1 := by omega
    subst e2
    clear hl hc hh ho
    go_enter Try.func50, Try.ntmps50
    go_wp2
    exact bodyPost_ret (v := .tuple #[.agg #[.int .u64 0, .int .u64 0], .bool false]) (by simp [results, Try.results50, go_sem]) rfl ⟨rfl, (by (repeat (first | with_reducible assumption | with_reducible exact Kp.refl _ | with_reducible refine Kp.drew ?_ | with_reducible refine Kp.drewN ?_ _ | with_reducible refine Kp.alloc ?_ _ | ((with_reducible refine Kp.setCell ?_ ?_ _); rotate_left; (focus (first | omega | (simp; done) | (simp; omega)))) | with_reducible refine Kp.trans ?_ (by assumption))))⟩

theorem numDiv0_any (h l : Nat) (w : World) :
    Calls Try.prog 52 #[num h l, .int .u64 0] w fun e w' => e = .returned (.tuple #[num 0 0, .int .u64 0, .bool false]) ∧ Kp w w' := by
  unfold num
  go_enter Try.func52, Try.ntmps52
  go_wp2
  exact bodyPost_ret (v := .tuple #[.agg #[.int .u64 0, .int .u64 0], .int .u64 0, .bool false]) (by simp [results, Try.results52, go_sem]) rfl ⟨rfl, (by (repeat (first | with_reducible assumption | with_reducible exact Kp.refl _ | with_reducible refine Kp.drew ?_ | with_reducible refine Kp.drewN ?_ _ | with_reducible refine Kp.alloc ?_ _ | ((with_reducible refine Kp.setCell ?_ ?_ _); rotate_left; (focus (first | omega | (simp; done) | (simp; omega)))) | with_reducible refine Kp.trans ?_ (by assumption))))⟩

set_option maxHeartbeats 1000000 in
theorem numDiv_any (h l d : Nat) (hd : 0 < d) (hdb : d < 18446744073709551616) (hh : h < 18446744073709551616) (hl : l < 18446744073709551616) (w : World) :
    Calls Try.prog 52 #[num h l, .int .u64 d] w fun e w' => e = .returned (.tuple #[num (h / d) ((h % d * 18446744073709551616 + l) / d), .int .u64 (((h % d * 18446744073709551616 + l) % d : Nat) : Int), .bool true]) ∧ Kp w w' := by
  unfold num
  have h1 : ((d : Int) == 0) = false := by rw [beq_eq_false_iff_ne]; omega
  have h2 : d ≠ 0 := by omega
  have hr : h % d < d := Nat.mod_lt _ hd
  obtain ⟨q, hq⟩ : ∃ q : Nat, h / d = q := ⟨_, rfl⟩
  obtain ⟨r, hr0⟩ : ∃ r : Nat, h % d = r := ⟨_, rfl⟩
  have q1 : (h : Int).tdiv (d : Int) = (q : Int) := quoN hq
  have q2 : (h : Int) / (d : Int) = (q : Int) := quoE hq
  have q3 : (h : Int).tmod (d : Int) = (r : Int) := by rw [← Int.ofNat_tmod, hr0]
  have q4 : q < 18446744073709551616 := by rw [← hq]; exact Nat.lt_of_le_of_lt (Nat.div_le_self _ _) hh
  have q5 : IntKind.u64.wrap (q : Int) = (q : Int) := wrapIn q4
  rw [hr0] at hr
  rw [hq, hr0]
  obtain ⟨x, hx⟩ : ∃ x : Nat, (r * 18446744073709551616 + l) / d = x := ⟨_, rfl⟩
  obtain ⟨y, hy⟩ : ∃ y : Nat, (r * 18446744073709551616 + l) % d = y := ⟨_, rfl⟩
  rw [hx, hy]
  have HX := Lib.hid hx; have HY := Lib.hid hy
  clear hx hy hq hr0
  go_enter Try.func52, Try.ntmps52
  go_wp2_with fail
  
  
  refine named_world (F := fun w2 => Blk w2 w.heap.size [.int .u64 (h : Int), .int .u64 (l : Int)] 64 ∧ Blk w2 (w.heap.size + 1) [.int .u64 0, .int .u64 0] 64 ∧ Kp w w2) ⟨(by (repeat (first | with_reducible assumption | ((with_reducible refine Blk.newL ?_ ?_); (focus (first | (simp; done) | omega)); rfl) | with_reducible refine Blk.drew ?_ | with_reducible refine Blk.drewN ?_ _ | with_reducible refine Blk.alloc ?_ _ | ((with_reducible refine Blk.other ?_ ?_ _); rotate_left; (focus (first | with_reducible assumption | omega | (simp; done) | (simp; omega))))))), (by (repeat (first | with_reducible assumption | ((with_reducible refine Blk.newL ?_ ?_); (focus (first | (simp; done) | omega)); rfl) | with_reducible refine Blk.drew ?_ | with_reducible refine Blk.drewN ?_ _ | with_reducible refine Blk.alloc ?_ _ | ((with_reducible refine Blk.other ?_ ?_ _); rotate_left; (focus (first | with_reducible assumption | omega | (simp; done) | (simp; omega))))))), (by (repeat (first | with_reducible assumption | with_reducible exact Kp.refl _ | with_reducible refine Kp.drew ?_ | with_reducible refine Kp.drewN ?_ _ | with_reducible refine Kp.alloc ?_ _ | ((with_reducible refine Kp.setCell ?_ ?_ _); rotate_left; (focus (first | omega | (simp; done) | (simp; omega)))) | with_reducible refine Kp.trans ?_ (by assumption))))⟩ ?_; rintro w2 ⟨xn, xr, kw2⟩; have xn_0 := xn.cell 0 rfl; have xn_1 := xn.cell 1 rfl; have xn_ne := xn.lt; have xn_n1 := Nat.lt_add_one_of_lt xn_ne; have xn_n2 := Nat.lt_add_one_of_lt xn_n1; have xr_0 := xr.cell 0 rfl; have xr_1 := xr.cell 1 rfl; have xr_ne := xr.lt; have xr_n1 := Nat.lt_add_one_of_lt xr_ne; have xr_n2 := Nat.lt_add_one_of_lt xr_n1; have xr_f0 := xr.free 0; have xr_f1 := xr.free 1
  (refine wp_region_held_drew (S := (fun w' => (∀ b o, b < w2.heap.size → w'.cell? ⟨b, o, none⟩ = w2.cell? ⟨b, o, none⟩) ∧ Kp w2 w')) (by kernel_rfl) ?_ (fun hHd => ?_); (focus ((try dsimp only); (first | with_reducible assumption | with_reducible exact held_start _ | with_reducible exact held_next (by assumption) (by assumption) | with_reducible exact held_alloc (by assumption) _ | with_reducible exact held_drew (by assumption) | ((with_reducible refine held_kp ?_); (repeat (first | with_reducible assumption | with_reducible exact Kp.refl _ | with_reducible refine Kp.drew ?_ | with_reducible refine Kp.drewN ?_ _ | with_reducible refine Kp.alloc ?_ _ | ((with_reducible refine Kp.setCell ?_ ?_ _); rotate_left; (focus (first | omega | (simp; done) | (simp; omega)))) | with_reducible refine Kp.trans ?_ (by assumption))))))))
  (refine wpAnyH_take (i := 0) (oi := ?ow29) (v := ?vw29) ?hw29 (by kernel_rfl) (by kernel_rfl) (by kernel_rfl) ?qw29 (Or.inl ⟨?ww29, ?yw29⟩) (by assumption) ?rw29; (case hw29 => (first | ((simp only [List.getElem?_toArray, List.getElem?_cons_zero]); rfl) | rfl)); (case qw29 => exact fun _ _ _ h => h); (case ww29 => rfl); (case yw29 => (intro w' hSw; (try dsimp only at hSw); go_simp; (try with_reducible rfl))); (try simp only [Act.put, List.setIfInBounds_toArray, List.set_cons_zero, List.set_cons_succ]))
  (refine wpAnyH_take (i := 1) (oi := ?ow210) (v := ?vw210) ?hw210 (by kernel_rfl) (by kernel_rfl) (by kernel_rfl) ?qw210 (Or.inl ⟨?ww210, ?yw210⟩) (by assumption) ?rw210; (case hw210 => (first | ((simp only [List.getElem?_toArray, List.getElem?_cons_succ, List.getElem?_cons_zero]); rfl) | rfl)); (case qw210 => exact fun _ _ _ h => h); (case ww210 => rfl); (case yw210 => (intro w' hSw; (try dsimp only at hSw); go_simp; (try with_reducible rfl))); (try simp only [Act.put, List.setIfInBounds_toArray, List.set_cons_zero, List.set_cons_succ]))
  (refine wpAnyH_take (i := 2) (oi := ?ow211) (v := ?vw211) ?hw211 (by kernel_rfl) (by kernel_rfl) (by kernel_rfl) ?qw211 (Or.inl ⟨?ww211, ?yw211⟩) (by assumption) ?rw211; (case hw211 => (first | ((simp only [List.getElem?_toArray, List.getElem?_cons_succ, List.getElem?_cons_zero]); rfl) | rfl)); (case qw211 => exact fun _ _ _ h => h); (case ww211 => rfl); (case yw211 => (intro w' hSw; (try dsimp only at hSw); go_simp; (try with_reducible rfl))); (try simp only [Act.put, List.setIfInBounds_toArray, List.set_cons_zero, List.set_cons_succ]))
  (refine wpAnyH_take (i := 3) (oi := ?ow212) (v := ?vw212) ?hw212 (by kernel_rfl) (by kernel_rfl) (by kernel_rfl) ?qw212 (Or.inl ⟨?ww212, ?yw212⟩) (by assumption) ?rw212; (case hw212 => (first | ((simp only [List.getElem?_toArray, List.getElem?_cons_succ, List.getElem?_cons_zero]); rfl) | rfl)); (case qw212 => exact fun _ _ _ h => h); (case ww212 => rfl); (case yw212 => (intro w' hSw; (try dsimp only at hSw); go_simp; (try with_reducible rfl))); (try simp only [Act.put, List.setIfInBounds_toArray, List.set_cons_zero, List.set_cons_succ]))
  (refine wpAnyH_take (i := 4) (oi := ?ow213) (v := ?vw213) ?hw213 (by kernel_rfl) (by kernel_rfl) (by kernel_rfl) ?qw213 (Or.inl ⟨?ww213, ?yw213⟩) (by assumption) ?rw213; (case hw213 => (first | ((simp only [List.getElem?_toArray, List.getElem?_cons_succ, List.getElem?_cons_zero]); rfl) | rfl)); (case qw213 => exact fun _ _ _ h => h); (case ww213 => rfl); (case yw213 => (intro w' hSw; (try dsimp only at hSw); go_simp; (try with_reducible rfl))); (try simp only [Act.put, List.setIfInBounds_toArray, List.set_cons_zero, List.set_cons_succ]))
  (refine wpAnyH_take (i := 5) (oi := ?ow214) (v := ?vw214) ?hw214 (by kernel_rfl) (by kernel_rfl) (by kernel_rfl) ?qw214 (Or.inl ⟨?ww214, ?yw214⟩) (by assumption) ?rw214; (case hw214 => (first | ((simp only [List.getElem?_toArray, List.getElem?_cons_succ, List.getElem?_cons_zero]); rfl) | rfl)); (case qw214 => exact fun _ _ _ h => h); (case ww214 => rfl); (case yw214 => (intro w' hSw; (try dsimp only at hSw); go_simp; (try with_reducible rfl))); (try simp only [Act.put, List.setIfInBounds_toArray, List.set_cons_zero, List.set_cons_succ]))
  (refine wpAnyH_take (i := 6) (oi := ?ow215) (v := ?vw215) ?hw215 (by kernel_rfl) (by kernel_rfl) (by kernel_rfl) ?qw215 (Or.inl ⟨?ww215, ?yw215⟩) (by assumption) ?rw215; (case hw215 => (first | ((simp only [List.getElem?_toArray, List.getElem?_cons_succ, List.getElem?_cons_zero]); rfl) | rfl)); (case qw215 => exact fun _ _ _ h => h); (case ww215 => rfl); (case yw215 => (intro w' hSw; (try dsimp only at hSw); go_simp; (try with_reducible rfl))); (try simp only [Act.put, List.setIfInBounds_toArray, List.set_cons_zero, List.set_cons_succ]))
  (refine wpAnyH_take (i := 7) (oi := ?ow216) (v := ?vw216) ?hw216 (by kernel_rfl) (by kernel_rfl) (by kernel_rfl) ?qw216 (Or.inl ⟨?ww216, ?yw216⟩) (by assumption) ?rw216; (case hw216 => (first | ((simp only [List.getElem?_toArray, List.getElem?_cons_succ, List.getElem?_cons_zero]); rfl) | rfl)); (case qw216 => exact fun _ _ _ h => h); (case ww216 => rfl); (case yw216 => (intro w' hSw; (try dsimp only at hSw); go_simp; (try with_reducible rfl))); (try simp only [Act.put, List.setIfInBounds_toArray, List.set_cons_zero, List.set_cons_succ]))
  (refine wpAnyH_take (i := 8) (oi := ?ow217) (v := ?vw217) ?hw217 (by kernel_rfl) (by kernel_rfl) (by kernel_rfl) ?qw217 (Or.inl ⟨?ww217, ?yw217⟩) (by assumption) ?rw217; (case hw217 => (first | ((simp only [List.getElem?_toArray, List.getElem?_cons_succ, List.getElem?_cons_zero]); rfl) | rfl)); (case qw217 => exact fun _ _ _ h => h); (case ww217 => rfl); (case yw217 => (intro w' hSw; (try dsimp only at hSw); go_simp; (try with_reducible rfl))); (try simp only [Act.put, List.setIfInBounds_toArray, List.set_cons_zero, List.set_cons_succ]))
  (refine wpAnyH_take (i := 9) (oi := ?ow218) (v := ?vw218) ?hw218 (by kernel_rfl) (by kernel_rfl) (by kernel_rfl) ?qw218 (Or.inl ⟨?ww218, ?yw218⟩) (by assumption) ?rw218; (case hw218 => (first | ((simp only [List.getElem?_toArray, List.getElem?_cons_succ, List.getElem?_cons_zero]); rfl) | rfl)); (case qw218 => exact fun _ _ _ h => h); (case ww218 => rfl); (case yw218 => (intro w' hSw; (try dsimp only at hSw); go_simp; (try with_reducible rfl))); (try simp only [Act.put, List.setIfInBounds_toArray, List.set_cons_zero, List.set_cons_succ]))
  refine wpAnyH_done (by kernel_rfl) ?_ _
  go_wp2_with (go_at_call 84; refine (div64_any _ _ _ hr _ hdb hl).mono ?_; rintro e w' ⟨rfl, kk⟩; rw [HX.out, HY.out]; have zr := xr.kp (Kp.trans (by first | exact Kp.refl _ | exact (Kp.refl _).drew) kk); have f0 := zr.free 0; have f1 := zr.free 1; have g0 := zr.cell 0 rfl; have g1 := zr.cell 1 rfl)
  refine ret_blkv (vs := [.int .u64 (q : Int), .int .u64 (x : Int)]) (.tuple #[.agg #[.int .u64 (q : Int), .int .u64 (x : Int)], .int .u64 (y : Int), .bool true]) (Blk.set (Blk.set zr 0 _) 1 _) ?_ rfl ⟨rfl, (by (repeat (first | with_reducible assumption | with_reducible exact Kp.refl _ | with_reducible refine Kp.drew ?_ | with_reducible refine Kp.drewN ?_ _ | with_reducible refine Kp.alloc ?_ _ | ((with_reducible refine Kp.setCell ?_ ?_ _); rotate_left; (focus (first | omega | (simp; done) | (simp; omega)))) | with_reducible refine Kp.trans ?_ (by assumption))))⟩; intro wz bz; have z0 := bz.cell 0 rfl; have z1 := bz.cell 1 rfl; simp [results, Try.results52, go_sem, z0, z1]

/-- a times b by c; none: there is none. -/
def ratio (a b c : Int) : Option Int := if a < 0 ∨ b < 0 ∨ c < 1 then none else if a * b / c ≤ 9223372036854775807 then some (a * b / c) else none
theorem long_div (Z h l d : Nat) (hd : 0 < d) (hl : l < 18446744073709551616) (hZ : h * 18446744073709551616 + l = Z) :
    Z / d = h / d * 18446744073709551616 + (h % d * 18446744073709551616 + l) / d ∧ (h % d * 18446744073709551616 + l) / d < 18446744073709551616 ∧ Z % d = (h % d * 18446744073709551616 + l) % d := by
  have e := Nat.div_add_mod h d
  have hr := Nat.mod_lt h hd
  obtain ⟨q, hq⟩ : ∃ q, h / d = q := ⟨_, rfl⟩
  obtain ⟨r, hr0⟩ : ∃ r, h % d = r := ⟨_, rfl⟩
  rw [hq, hr0] at e
  rw [hr0] at hr
  rw [hq, hr0]
  clear hq hr0
  have e2 : Z = d * (q * 18446744073709551616) + (r * 18446744073709551616 + l) := by
    rw [← hZ, ← e, Nat.add_mul, Nat.mul_assoc, Nat.add_assoc]
  refine ⟨?_, ?_, ?_⟩
  · rw [e2, Nat.mul_add_div hd]
  · rw [Nat.div_lt_iff_lt_mul hd]
    have h3 : (r + 1) * 18446744073709551616 ≤ d * 18446744073709551616 := Nat.mul_le_mul_right _ hr
    rw [Nat.mul_comm d] at h3
    clear e2 hZ e
    omega
  · rw [e2, Nat.mul_add_mod]

set_option maxRecDepth 100000 in
set_option maxHeartbeats 1000000 in
theorem ratio_any (a b c : Int) (w : World) (ha : I64 a) (hb : I64 b) (hc : I64 c) :
    Calls Try.prog 44 #[.int .i64 a, .int .i64 b, .int .i64 c] w fun e w' => e = .returned (.tuple #[.int .i64 ((ratio a b c).getD 0), .bool (ratio a b c).isSome]) ∧ Kp w w' := by
  by_cases h : a < 0 ∨ b < 0 ∨ c < 1
  · have hn : ratio a b c = none := by unfold ratio; rw [if_pos h]
    rw [hn]
    clear hn
    by_cases h1 : a < 0
    · go_enter Try.func44, Try.ntmps44
      go_wp2
      go_ret2
      exact ⟨rfl, (by (repeat (first | with_reducible assumption | with_reducible exact Kp.refl _ | with_reducible refine Kp.drew ?_ | with_reducible refine Kp.drewN ?_ _ | with_reducible refine Kp.alloc ?_ _ | ((with_reducible refine Kp.setCell ?_ ?_ _); rotate_left; (focus (first | omega | (simp; done) | (simp; omega)))) | with_reducible refine Kp.trans ?_ (by assumption))))⟩
    · by_cases h2 : b < 0
      · go_enter Try.func44, Try.ntmps44
        go_wp2
        go_ret2
        exact ⟨rfl, (by (repeat (first | with_reducible assumption | with_reducible exact Kp.refl _ | with_reducible refine Kp.drew ?_ | with_reducible refine Kp.drewN ?_ _ | with_reducible refine Kp.alloc ?_ _ | ((with_reducible refine Kp.setCell ?_ ?_ _); rotate_left; (focus (first | omega | (simp; done) | (simp; omega)))) | with_reducible refine Kp.trans ?_ (by assumption))))⟩
      · have h3 : c < 1 := by omega
        go_enter Try.func44, Try.ntmps44
        go_wp2
        go_ret2
        exact ⟨rfl, (by (repeat (first | with_reducible assumption | with_reducible exact Kp.refl _ | with_reducible refine Kp.drew ?_ | with_reducible refine Kp.drewN ?_ _ | with_reducible refine Kp.alloc ?_ _ | ((with_reducible refine Kp.setCell ?_ ?_ _); rotate_left; (focus (first | omega | (simp; done) | (simp; omega)))) | with_reducible refine Kp.trans ?_ (by assumption))))⟩
  · obtain ⟨x, rfl⟩ := Int.eq_ofNat_of_zero_le (by omega : 0 ≤ a)
    obtain ⟨y, rfl⟩ := Int.eq_ofNat_of_zero_le (by omega : 0 ≤ b)
    obtain ⟨d, rfl⟩ := Int.eq_ofNat_of_zero_le (by omega : 0 ≤ c)
    have g1 : ¬ (x : Int) < 0 := by omega
    have g2 : ¬ (y : Int) < 0 := by omega
    have g3 : ¬ (d : Int) < 1 := by omega
    have bx : x < 9223372036854775808 := by have := ha.2; omega
    have bY : y < 9223372036854775808 := by have := hb.2; omega
    have bd : d < 9223372036854775808 := by have := hc.2; omega
    have hd : 0 < d := by omega
    have hdn : ¬ ((d : Int) = 0) := by omega
    have cx : IntKind.u64.wrap (x : Int) = (x : Int) := wrapIn (by omega)
    have cy : IntKind.u64.wrap (y : Int) = (y : Int) := wrapIn (by omega)
    have cd : IntKind.u64.wrap (d : Int) = (d : Int) := wrapIn (by omega)
    have hr : ratio x y d = if ((x * y / d : Nat) : Int) ≤ 9223372036854775807 then some ((x * y / d : Nat) : Int) else none := by
      unfold ratio; rw [if_neg h]; push_cast; rfl
    rw [hr]
    have hxy : x * y < 340282366920938463463374607431768211456 := by
      have := Nat.mul_lt_mul'' bx bY
      omega
    obtain ⟨Z, hZ⟩ : ∃ Z : Nat, x * y = Z := ⟨_, rfl⟩
    rw [hZ] at hxy
    obtain ⟨H, hH⟩ : ∃ k : Nat, Z / 18446744073709551616 = k := ⟨_, rfl⟩
    obtain ⟨L, hL⟩ : ∃ k : Nat, Z % 18446744073709551616 = k := ⟨_, rfl⟩
    have bH : H < 18446744073709551616 := by omega
    have bL : L < 18446744073709551616 := by omega
    obtain ⟨l1, l2, _⟩ := long_div Z H L d hd bL (by omega)
    obtain ⟨q, hq⟩ : ∃ k : Nat, H / d = k := ⟨_, rfl⟩
    obtain ⟨p, hp⟩ : ∃ k : Nat, (H % d * 18446744073709551616 + L) / d = k := ⟨_, rfl⟩
    rw [hZ]
    rw [hq, hp] at l1
    rw [hp] at l2
    rw [l1]
    have hm := wideMul_any x y (by omega) (by omega)
    rw [hZ, hH, hL] at hm
    have hv := numDiv_any H L d hd (by omega) bH bL
    rw [hq, hp] at hv
    have HM := Lib.hid hm; have HV := Lib.hid hv
    clear hm hv hr l1 hZ hxy hH hL hp hq ha hb hc
    obtain ⟨rest, hrest⟩ : ∃ k : Nat, (H % d * 18446744073709551616 + L) % d = k := ⟨_, rfl⟩
    rw [hrest] at HV
    clear hrest
    unfold num at HM HV
    by_cases hf : ((q * 18446744073709551616 + p : Nat) : Int) ≤ 9223372036854775807
    · rw [if_pos hf]
      obtain rfl : q = 0 := by omega
      rw [Nat.zero_mul, Nat.zero_add] at hf ⊢
      have hp' : ¬ ((9223372036854775807 : Int) < (p : Int)) := by omega
      have hp2 : decide ((9223372036854775807 : Int) < (p : Int)) = false := decide_eq_false hp'
      go_enter Try.func44, Try.ntmps44
      go_wp2_with (first
        | (go_at_call 55; go_must (refine (HM.out _).mono ?_); rintro e w' ⟨rfl, kk⟩)
        | (go_at_call 52; go_must (refine (HV.out _).mono ?_); rintro e w' ⟨rfl, kk⟩))
      go_ret2
      exact ⟨rfl, (by (repeat (first | with_reducible assumption | with_reducible exact Kp.refl _ | with_reducible refine Kp.drew ?_ | with_reducible refine Kp.drewN ?_ _ | with_reducible refine Kp.alloc ?_ _ | ((with_reducible refine Kp.setCell ?_ ?_ _); rotate_left; (focus (first | omega | (simp; done) | (simp; omega)))) | with_reducible refine Kp.trans ?_ (by assumption))))⟩
    · rw [if_neg hf]
      by_cases hq0 : 0 < q
      · go_enter Try.func44, Try.ntmps44
        go_wp2_with (first
          | (go_at_call 55; go_must (refine (HM.out _).mono ?_); rintro e w' ⟨rfl, kk⟩)
          | (go_at_call 52; go_must (refine (HV.out _).mono ?_); rintro e w' ⟨rfl, kk⟩))
        go_ret2
        exact ⟨rfl, (by (repeat (first | with_reducible assumption | with_reducible exact Kp.refl _ | with_reducible refine Kp.drew ?_ | with_reducible refine Kp.drewN ?_ _ | with_reducible refine Kp.alloc ?_ _ | ((with_reducible refine Kp.setCell ?_ ?_ _); rotate_left; (focus (first | omega | (simp; done) | (simp; omega)))) | with_reducible refine Kp.trans ?_ (by assumption))))⟩
      · obtain rfl : q = 0 := by omega
        have hp' : ((9223372036854775807 : Int) < (p : Int)) := by omega
        have hp2 : decide ((9223372036854775807 : Int) < (p : Int)) = true := decide_eq_true hp'
        go_enter Try.func44, Try.ntmps44
        go_wp2_with (first
          | (go_at_call 55; go_must (refine (HM.out _).mono ?_); rintro e w' ⟨rfl, kk⟩)
          | (go_at_call 52; go_must (refine (HV.out _).mono ?_); rintro e w' ⟨rfl, kk⟩))
        go_ret2
        exact ⟨rfl, (by (repeat (first | with_reducible assumption | with_reducible exact Kp.refl _ | with_reducible refine Kp.drew ?_ | with_reducible refine Kp.drewN ?_ _ | with_reducible refine Kp.alloc ?_ _ | ((with_reducible refine Kp.setCell ?_ ?_ _); rotate_left; (focus (first | omega | (simp; done) | (simp; omega)))) | with_reducible refine Kp.trans ?_ (by assumption))))⟩
end Go.Proofs.Ytepckgcbncdibaa
