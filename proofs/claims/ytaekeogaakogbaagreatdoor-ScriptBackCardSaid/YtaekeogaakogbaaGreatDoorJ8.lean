/- A geometry's numbers, by their words: the gauges. -/
import Derived.Test.YtaekeogaakogbaaGreatDoorJ7

import Derived.Laws.Pointers

namespace Go.Proofs.YtaekeogaakogbaaGreatDoor

open Go.ChangeShapes Go.WideShapes Go.ChangeAt Go.RowKit Go.Shelf

theorem at_0 (b : Nat) (w : World) : Calls Tryz.prog 34 #[.pointer (some ⟨b, 0, none⟩)] w fun e w' => e = .returned (.pointer (some ⟨b, 0, none⟩)) ∧ w' = w := by
  go_enter Tryz.func34, Tryz.ntmps34
  go_wp2_with fail
  (try go_ret)
  exact ⟨rfl, rfl⟩
theorem get_0 (b c : Nat) (x : Int) (w : World) (hc : w.cell? ⟨c, 0, none⟩ = some (.func (Fn.func 34) #[] #[])) (hb : w.cell? ⟨b, 0, none⟩ = some (.int .i64 x)) : Calls Tryz.prog 74 #[.pointer (some ⟨b, 0, none⟩), .pointer (some ⟨c, 0, none⟩)] w fun e w' => e = .returned (.int .i64 x) ∧ w' = w := by
  go_enter Tryz.func74, Tryz.ntmps74
  go_wp2_with fail
  refine (at_0 _ _).mono ?_
  rintro e w1 ⟨rfl, h1⟩
  rw [h1]
  clear h1 w1
  go_wp2_with fail
  (try go_ret)
  exact ⟨rfl, rfl⟩
theorem set_0 (b c : Nat) (x n : Int) (w : World) (hc : w.cell? ⟨c, 0, none⟩ = some (.func (Fn.func 34) #[] #[])) (hb : w.cell? ⟨b, 0, none⟩ = some (.int .i64 x)) (hf : w.frozen? ⟨b, 0, none⟩ = false) : Calls Tryz.prog 75 #[.pointer (some ⟨b, 0, none⟩), .int .i64 n, .pointer (some ⟨c, 0, none⟩)] w fun e w' => e = .returned (.tuple #[]) ∧ w' = w.setCell ⟨b, 0, none⟩ (.int .i64 n) := by
  go_enter Tryz.func75, Tryz.ntmps75
  go_wp2_with fail
  refine (at_0 _ _).mono ?_
  rintro e w1 ⟨rfl, h1⟩
  rw [h1]
  clear h1 w1
  go_wp2_with fail
  exact ⟨rfl, .tuple #[], (by simp [results, Tryz.results75, go_sem]), rfl, rfl⟩
theorem at_1 (b : Nat) (w : World) : Calls Tryz.prog 36 #[.pointer (some ⟨b, 0, none⟩)] w fun e w' => e = .returned (.pointer (some ⟨b, 1, none⟩)) ∧ w' = w := by
  go_enter Tryz.func36, Tryz.ntmps36
  go_wp2_with fail
  (try go_ret)
  exact ⟨rfl, rfl⟩
theorem get_1 (b c : Nat) (x : Int) (w : World) (hc : w.cell? ⟨c, 0, none⟩ = some (.func (Fn.func 36) #[] #[])) (hb : w.cell? ⟨b, 1, none⟩ = some (.int .i64 x)) : Calls Tryz.prog 76 #[.pointer (some ⟨b, 0, none⟩), .pointer (some ⟨c, 0, none⟩)] w fun e w' => e = .returned (.int .i64 x) ∧ w' = w := by
  go_enter Tryz.func76, Tryz.ntmps76
  go_wp2_with fail
  refine (at_1 _ _).mono ?_
  rintro e w1 ⟨rfl, h1⟩
  rw [h1]
  clear h1 w1
  go_wp2_with fail
  (try go_ret)
  exact ⟨rfl, rfl⟩
theorem set_1 (b c : Nat) (x n : Int) (w : World) (hc : w.cell? ⟨c, 0, none⟩ = some (.func (Fn.func 36) #[] #[])) (hb : w.cell? ⟨b, 1, none⟩ = some (.int .i64 x)) (hf : w.frozen? ⟨b, 1, none⟩ = false) : Calls Tryz.prog 77 #[.pointer (some ⟨b, 0, none⟩), .int .i64 n, .pointer (some ⟨c, 0, none⟩)] w fun e w' => e = .returned (.tuple #[]) ∧ w' = w.setCell ⟨b, 1, none⟩ (.int .i64 n) := by
  go_enter Tryz.func77, Tryz.ntmps77
  go_wp2_with fail
  refine (at_1 _ _).mono ?_
  rintro e w1 ⟨rfl, h1⟩
  rw [h1]
  clear h1 w1
  go_wp2_with fail
  exact ⟨rfl, .tuple #[], (by simp [results, Tryz.results77, go_sem]), rfl, rfl⟩
theorem at_2 (b : Nat) (w : World) : Calls Tryz.prog 37 #[.pointer (some ⟨b, 0, none⟩)] w fun e w' => e = .returned (.pointer (some ⟨b, 2, none⟩)) ∧ w' = w := by
  go_enter Tryz.func37, Tryz.ntmps37
  go_wp2_with fail
  (try go_ret)
  exact ⟨rfl, rfl⟩
theorem get_2 (b c : Nat) (x : Int) (w : World) (hc : w.cell? ⟨c, 0, none⟩ = some (.func (Fn.func 37) #[] #[])) (hb : w.cell? ⟨b, 2, none⟩ = some (.int .i64 x)) : Calls Tryz.prog 76 #[.pointer (some ⟨b, 0, none⟩), .pointer (some ⟨c, 0, none⟩)] w fun e w' => e = .returned (.int .i64 x) ∧ w' = w := by
  go_enter Tryz.func76, Tryz.ntmps76
  go_wp2_with fail
  refine (at_2 _ _).mono ?_
  rintro e w1 ⟨rfl, h1⟩
  rw [h1]
  clear h1 w1
  go_wp2_with fail
  (try go_ret)
  exact ⟨rfl, rfl⟩
theorem set_2 (b c : Nat) (x n : Int) (w : World) (hc : w.cell? ⟨c, 0, none⟩ = some (.func (Fn.func 37) #[] #[])) (hb : w.cell? ⟨b, 2, none⟩ = some (.int .i64 x)) (hf : w.frozen? ⟨b, 2, none⟩ = false) : Calls Tryz.prog 77 #[.pointer (some ⟨b, 0, none⟩), .int .i64 n, .pointer (some ⟨c, 0, none⟩)] w fun e w' => e = .returned (.tuple #[]) ∧ w' = w.setCell ⟨b, 2, none⟩ (.int .i64 n) := by
  go_enter Tryz.func77, Tryz.ntmps77
  go_wp2_with fail
  refine (at_2 _ _).mono ?_
  rintro e w1 ⟨rfl, h1⟩
  rw [h1]
  clear h1 w1
  go_wp2_with fail
  exact ⟨rfl, .tuple #[], (by simp [results, Tryz.results77, go_sem]), rfl, rfl⟩
theorem at_3 (b : Nat) (w : World) : Calls Tryz.prog 38 #[.pointer (some ⟨b, 0, none⟩)] w fun e w' => e = .returned (.pointer (some ⟨b, 3, none⟩)) ∧ w' = w := by
  go_enter Tryz.func38, Tryz.ntmps38
  go_wp2_with fail
  (try go_ret)
  exact ⟨rfl, rfl⟩
theorem get_3 (b c : Nat) (x : Int) (w : World) (hc : w.cell? ⟨c, 0, none⟩ = some (.func (Fn.func 38) #[] #[])) (hb : w.cell? ⟨b, 3, none⟩ = some (.int .i64 x)) : Calls Tryz.prog 76 #[.pointer (some ⟨b, 0, none⟩), .pointer (some ⟨c, 0, none⟩)] w fun e w' => e = .returned (.int .i64 x) ∧ w' = w := by
  go_enter Tryz.func76, Tryz.ntmps76
  go_wp2_with fail
  refine (at_3 _ _).mono ?_
  rintro e w1 ⟨rfl, h1⟩
  rw [h1]
  clear h1 w1
  go_wp2_with fail
  (try go_ret)
  exact ⟨rfl, rfl⟩
theorem set_3 (b c : Nat) (x n : Int) (w : World) (hc : w.cell? ⟨c, 0, none⟩ = some (.func (Fn.func 38) #[] #[])) (hb : w.cell? ⟨b, 3, none⟩ = some (.int .i64 x)) (hf : w.frozen? ⟨b, 3, none⟩ = false) : Calls Tryz.prog 77 #[.pointer (some ⟨b, 0, none⟩), .int .i64 n, .pointer (some ⟨c, 0, none⟩)] w fun e w' => e = .returned (.tuple #[]) ∧ w' = w.setCell ⟨b, 3, none⟩ (.int .i64 n) := by
  go_enter Tryz.func77, Tryz.ntmps77
  go_wp2_with fail
  refine (at_3 _ _).mono ?_
  rintro e w1 ⟨rfl, h1⟩
  rw [h1]
  clear h1 w1
  go_wp2_with fail
  exact ⟨rfl, .tuple #[], (by simp [results, Tryz.results77, go_sem]), rfl, rfl⟩
theorem at_4 (b : Nat) (w : World) : Calls Tryz.prog 39 #[.pointer (some ⟨b, 0, none⟩)] w fun e w' => e = .returned (.pointer (some ⟨b, 4, none⟩)) ∧ w' = w := by
  go_enter Tryz.func39, Tryz.ntmps39
  go_wp2_with fail
  (try go_ret)
  exact ⟨rfl, rfl⟩
theorem get_4 (b c : Nat) (x : Int) (w : World) (hc : w.cell? ⟨c, 0, none⟩ = some (.func (Fn.func 39) #[] #[])) (hb : w.cell? ⟨b, 4, none⟩ = some (.int .i64 x)) : Calls Tryz.prog 76 #[.pointer (some ⟨b, 0, none⟩), .pointer (some ⟨c, 0, none⟩)] w fun e w' => e = .returned (.int .i64 x) ∧ w' = w := by
  go_enter Tryz.func76, Tryz.ntmps76
  go_wp2_with fail
  refine (at_4 _ _).mono ?_
  rintro e w1 ⟨rfl, h1⟩
  rw [h1]
  clear h1 w1
  go_wp2_with fail
  (try go_ret)
  exact ⟨rfl, rfl⟩
theorem set_4 (b c : Nat) (x n : Int) (w : World) (hc : w.cell? ⟨c, 0, none⟩ = some (.func (Fn.func 39) #[] #[])) (hb : w.cell? ⟨b, 4, none⟩ = some (.int .i64 x)) (hf : w.frozen? ⟨b, 4, none⟩ = false) : Calls Tryz.prog 77 #[.pointer (some ⟨b, 0, none⟩), .int .i64 n, .pointer (some ⟨c, 0, none⟩)] w fun e w' => e = .returned (.tuple #[]) ∧ w' = w.setCell ⟨b, 4, none⟩ (.int .i64 n) := by
  go_enter Tryz.func77, Tryz.ntmps77
  go_wp2_with fail
  refine (at_4 _ _).mono ?_
  rintro e w1 ⟨rfl, h1⟩
  rw [h1]
  clear h1 w1
  go_wp2_with fail
  exact ⟨rfl, .tuple #[], (by simp [results, Tryz.results77, go_sem]), rfl, rfl⟩
theorem at_5 (b : Nat) (w : World) : Calls Tryz.prog 40 #[.pointer (some ⟨b, 0, none⟩)] w fun e w' => e = .returned (.pointer (some ⟨b, 5, none⟩)) ∧ w' = w := by
  go_enter Tryz.func40, Tryz.ntmps40
  go_wp2_with fail
  (try go_ret)
  exact ⟨rfl, rfl⟩
theorem get_5 (b c : Nat) (x : Int) (w : World) (hc : w.cell? ⟨c, 0, none⟩ = some (.func (Fn.func 40) #[] #[])) (hb : w.cell? ⟨b, 5, none⟩ = some (.int .i64 x)) : Calls Tryz.prog 76 #[.pointer (some ⟨b, 0, none⟩), .pointer (some ⟨c, 0, none⟩)] w fun e w' => e = .returned (.int .i64 x) ∧ w' = w := by
  go_enter Tryz.func76, Tryz.ntmps76
  go_wp2_with fail
  refine (at_5 _ _).mono ?_
  rintro e w1 ⟨rfl, h1⟩
  rw [h1]
  clear h1 w1
  go_wp2_with fail
  (try go_ret)
  exact ⟨rfl, rfl⟩
theorem set_5 (b c : Nat) (x n : Int) (w : World) (hc : w.cell? ⟨c, 0, none⟩ = some (.func (Fn.func 40) #[] #[])) (hb : w.cell? ⟨b, 5, none⟩ = some (.int .i64 x)) (hf : w.frozen? ⟨b, 5, none⟩ = false) : Calls Tryz.prog 77 #[.pointer (some ⟨b, 0, none⟩), .int .i64 n, .pointer (some ⟨c, 0, none⟩)] w fun e w' => e = .returned (.tuple #[]) ∧ w' = w.setCell ⟨b, 5, none⟩ (.int .i64 n) := by
  go_enter Tryz.func77, Tryz.ntmps77
  go_wp2_with fail
  refine (at_5 _ _).mono ?_
  rintro e w1 ⟨rfl, h1⟩
  rw [h1]
  clear h1 w1
  go_wp2_with fail
  exact ⟨rfl, .tuple #[], (by simp [results, Tryz.results77, go_sem]), rfl, rfl⟩
theorem at_6 (b : Nat) (w : World) : Calls Tryz.prog 41 #[.pointer (some ⟨b, 0, none⟩)] w fun e w' => e = .returned (.pointer (some ⟨b, 6, none⟩)) ∧ w' = w := by
  go_enter Tryz.func41, Tryz.ntmps41
  go_wp2_with fail
  (try go_ret)
  exact ⟨rfl, rfl⟩
theorem get_6 (b c : Nat) (x : Int) (w : World) (hc : w.cell? ⟨c, 0, none⟩ = some (.func (Fn.func 41) #[] #[])) (hb : w.cell? ⟨b, 6, none⟩ = some (.int .i64 x)) : Calls Tryz.prog 76 #[.pointer (some ⟨b, 0, none⟩), .pointer (some ⟨c, 0, none⟩)] w fun e w' => e = .returned (.int .i64 x) ∧ w' = w := by
  go_enter Tryz.func76, Tryz.ntmps76
  go_wp2_with fail
  refine (at_6 _ _).mono ?_
  rintro e w1 ⟨rfl, h1⟩
  rw [h1]
  clear h1 w1
  go_wp2_with fail
  (try go_ret)
  exact ⟨rfl, rfl⟩
theorem set_6 (b c : Nat) (x n : Int) (w : World) (hc : w.cell? ⟨c, 0, none⟩ = some (.func (Fn.func 41) #[] #[])) (hb : w.cell? ⟨b, 6, none⟩ = some (.int .i64 x)) (hf : w.frozen? ⟨b, 6, none⟩ = false) : Calls Tryz.prog 77 #[.pointer (some ⟨b, 0, none⟩), .int .i64 n, .pointer (some ⟨c, 0, none⟩)] w fun e w' => e = .returned (.tuple #[]) ∧ w' = w.setCell ⟨b, 6, none⟩ (.int .i64 n) := by
  go_enter Tryz.func77, Tryz.ntmps77
  go_wp2_with fail
  refine (at_6 _ _).mono ?_
  rintro e w1 ⟨rfl, h1⟩
  rw [h1]
  clear h1 w1
  go_wp2_with fail
  exact ⟨rfl, .tuple #[], (by simp [results, Tryz.results77, go_sem]), rfl, rfl⟩
theorem at_7 (b : Nat) (w : World) : Calls Tryz.prog 42 #[.pointer (some ⟨b, 0, none⟩)] w fun e w' => e = .returned (.pointer (some ⟨b, 7, none⟩)) ∧ w' = w := by
  go_enter Tryz.func42, Tryz.ntmps42
  go_wp2_with fail
  (try go_ret)
  exact ⟨rfl, rfl⟩
theorem get_7 (b c : Nat) (x : Int) (w : World) (hc : w.cell? ⟨c, 0, none⟩ = some (.func (Fn.func 42) #[] #[])) (hb : w.cell? ⟨b, 7, none⟩ = some (.int .i64 x)) : Calls Tryz.prog 76 #[.pointer (some ⟨b, 0, none⟩), .pointer (some ⟨c, 0, none⟩)] w fun e w' => e = .returned (.int .i64 x) ∧ w' = w := by
  go_enter Tryz.func76, Tryz.ntmps76
  go_wp2_with fail
  refine (at_7 _ _).mono ?_
  rintro e w1 ⟨rfl, h1⟩
  rw [h1]
  clear h1 w1
  go_wp2_with fail
  (try go_ret)
  exact ⟨rfl, rfl⟩
theorem set_7 (b c : Nat) (x n : Int) (w : World) (hc : w.cell? ⟨c, 0, none⟩ = some (.func (Fn.func 42) #[] #[])) (hb : w.cell? ⟨b, 7, none⟩ = some (.int .i64 x)) (hf : w.frozen? ⟨b, 7, none⟩ = false) : Calls Tryz.prog 77 #[.pointer (some ⟨b, 0, none⟩), .int .i64 n, .pointer (some ⟨c, 0, none⟩)] w fun e w' => e = .returned (.tuple #[]) ∧ w' = w.setCell ⟨b, 7, none⟩ (.int .i64 n) := by
  go_enter Tryz.func77, Tryz.ntmps77
  go_wp2_with fail
  refine (at_7 _ _).mono ?_
  rintro e w1 ⟨rfl, h1⟩
  rw [h1]
  clear h1 w1
  go_wp2_with fail
  exact ⟨rfl, .tuple #[], (by simp [results, Tryz.results77, go_sem]), rfl, rfl⟩
theorem at_8 (b : Nat) (w : World) : Calls Tryz.prog 43 #[.pointer (some ⟨b, 0, none⟩)] w fun e w' => e = .returned (.pointer (some ⟨b, 8, none⟩)) ∧ w' = w := by
  go_enter Tryz.func43, Tryz.ntmps43
  go_wp2_with fail
  (try go_ret)
  exact ⟨rfl, rfl⟩
theorem get_8 (b c : Nat) (x : Int) (w : World) (hc : w.cell? ⟨c, 0, none⟩ = some (.func (Fn.func 43) #[] #[])) (hb : w.cell? ⟨b, 8, none⟩ = some (.int .i64 x)) : Calls Tryz.prog 76 #[.pointer (some ⟨b, 0, none⟩), .pointer (some ⟨c, 0, none⟩)] w fun e w' => e = .returned (.int .i64 x) ∧ w' = w := by
  go_enter Tryz.func76, Tryz.ntmps76
  go_wp2_with fail
  refine (at_8 _ _).mono ?_
  rintro e w1 ⟨rfl, h1⟩
  rw [h1]
  clear h1 w1
  go_wp2_with fail
  (try go_ret)
  exact ⟨rfl, rfl⟩
theorem set_8 (b c : Nat) (x n : Int) (w : World) (hc : w.cell? ⟨c, 0, none⟩ = some (.func (Fn.func 43) #[] #[])) (hb : w.cell? ⟨b, 8, none⟩ = some (.int .i64 x)) (hf : w.frozen? ⟨b, 8, none⟩ = false) : Calls Tryz.prog 77 #[.pointer (some ⟨b, 0, none⟩), .int .i64 n, .pointer (some ⟨c, 0, none⟩)] w fun e w' => e = .returned (.tuple #[]) ∧ w' = w.setCell ⟨b, 8, none⟩ (.int .i64 n) := by
  go_enter Tryz.func77, Tryz.ntmps77
  go_wp2_with fail
  refine (at_8 _ _).mono ?_
  rintro e w1 ⟨rfl, h1⟩
  rw [h1]
  clear h1 w1
  go_wp2_with fail
  exact ⟨rfl, .tuple #[], (by simp [results, Tryz.results77, go_sem]), rfl, rfl⟩
theorem at_9 (b : Nat) (w : World) : Calls Tryz.prog 44 #[.pointer (some ⟨b, 0, none⟩)] w fun e w' => e = .returned (.pointer (some ⟨b, 9, none⟩)) ∧ w' = w := by
  go_enter Tryz.func44, Tryz.ntmps44
  go_wp2_with fail
  (try go_ret)
  exact ⟨rfl, rfl⟩
theorem get_9 (b c : Nat) (x : Int) (w : World) (hc : w.cell? ⟨c, 0, none⟩ = some (.func (Fn.func 44) #[] #[])) (hb : w.cell? ⟨b, 9, none⟩ = some (.int .i64 x)) : Calls Tryz.prog 76 #[.pointer (some ⟨b, 0, none⟩), .pointer (some ⟨c, 0, none⟩)] w fun e w' => e = .returned (.int .i64 x) ∧ w' = w := by
  go_enter Tryz.func76, Tryz.ntmps76
  go_wp2_with fail
  refine (at_9 _ _).mono ?_
  rintro e w1 ⟨rfl, h1⟩
  rw [h1]
  clear h1 w1
  go_wp2_with fail
  (try go_ret)
  exact ⟨rfl, rfl⟩
theorem set_9 (b c : Nat) (x n : Int) (w : World) (hc : w.cell? ⟨c, 0, none⟩ = some (.func (Fn.func 44) #[] #[])) (hb : w.cell? ⟨b, 9, none⟩ = some (.int .i64 x)) (hf : w.frozen? ⟨b, 9, none⟩ = false) : Calls Tryz.prog 77 #[.pointer (some ⟨b, 0, none⟩), .int .i64 n, .pointer (some ⟨c, 0, none⟩)] w fun e w' => e = .returned (.tuple #[]) ∧ w' = w.setCell ⟨b, 9, none⟩ (.int .i64 n) := by
  go_enter Tryz.func77, Tryz.ntmps77
  go_wp2_with fail
  refine (at_9 _ _).mono ?_
  rintro e w1 ⟨rfl, h1⟩
  rw [h1]
  clear h1 w1
  go_wp2_with fail
  exact ⟨rfl, .tuple #[], (by simp [results, Tryz.results77, go_sem]), rfl, rfl⟩
theorem at_10 (b : Nat) (w : World) : Calls Tryz.prog 45 #[.pointer (some ⟨b, 0, none⟩)] w fun e w' => e = .returned (.pointer (some ⟨b, 10, none⟩)) ∧ w' = w := by
  go_enter Tryz.func45, Tryz.ntmps45
  go_wp2_with fail
  (try go_ret)
  exact ⟨rfl, rfl⟩
theorem get_10 (b c : Nat) (x : Int) (w : World) (hc : w.cell? ⟨c, 0, none⟩ = some (.func (Fn.func 45) #[] #[])) (hb : w.cell? ⟨b, 10, none⟩ = some (.int .i64 x)) : Calls Tryz.prog 76 #[.pointer (some ⟨b, 0, none⟩), .pointer (some ⟨c, 0, none⟩)] w fun e w' => e = .returned (.int .i64 x) ∧ w' = w := by
  go_enter Tryz.func76, Tryz.ntmps76
  go_wp2_with fail
  refine (at_10 _ _).mono ?_
  rintro e w1 ⟨rfl, h1⟩
  rw [h1]
  clear h1 w1
  go_wp2_with fail
  (try go_ret)
  exact ⟨rfl, rfl⟩
theorem set_10 (b c : Nat) (x n : Int) (w : World) (hc : w.cell? ⟨c, 0, none⟩ = some (.func (Fn.func 45) #[] #[])) (hb : w.cell? ⟨b, 10, none⟩ = some (.int .i64 x)) (hf : w.frozen? ⟨b, 10, none⟩ = false) : Calls Tryz.prog 77 #[.pointer (some ⟨b, 0, none⟩), .int .i64 n, .pointer (some ⟨c, 0, none⟩)] w fun e w' => e = .returned (.tuple #[]) ∧ w' = w.setCell ⟨b, 10, none⟩ (.int .i64 n) := by
  go_enter Tryz.func77, Tryz.ntmps77
  go_wp2_with fail
  refine (at_10 _ _).mono ?_
  rintro e w1 ⟨rfl, h1⟩
  rw [h1]
  clear h1 w1
  go_wp2_with fail
  exact ⟨rfl, .tuple #[], (by simp [results, Tryz.results77, go_sem]), rfl, rfl⟩
theorem at_11 (b : Nat) (w : World) : Calls Tryz.prog 46 #[.pointer (some ⟨b, 0, none⟩)] w fun e w' => e = .returned (.pointer (some ⟨b, 11, none⟩)) ∧ w' = w := by
  go_enter Tryz.func46, Tryz.ntmps46
  go_wp2_with fail
  (try go_ret)
  exact ⟨rfl, rfl⟩
theorem get_11 (b c : Nat) (x : Int) (w : World) (hc : w.cell? ⟨c, 0, none⟩ = some (.func (Fn.func 46) #[] #[])) (hb : w.cell? ⟨b, 11, none⟩ = some (.int .i64 x)) : Calls Tryz.prog 74 #[.pointer (some ⟨b, 0, none⟩), .pointer (some ⟨c, 0, none⟩)] w fun e w' => e = .returned (.int .i64 x) ∧ w' = w := by
  go_enter Tryz.func74, Tryz.ntmps74
  go_wp2_with fail
  refine (at_11 _ _).mono ?_
  rintro e w1 ⟨rfl, h1⟩
  rw [h1]
  clear h1 w1
  go_wp2_with fail
  (try go_ret)
  exact ⟨rfl, rfl⟩
theorem set_11 (b c : Nat) (x n : Int) (w : World) (hc : w.cell? ⟨c, 0, none⟩ = some (.func (Fn.func 46) #[] #[])) (hb : w.cell? ⟨b, 11, none⟩ = some (.int .i64 x)) (hf : w.frozen? ⟨b, 11, none⟩ = false) : Calls Tryz.prog 75 #[.pointer (some ⟨b, 0, none⟩), .int .i64 n, .pointer (some ⟨c, 0, none⟩)] w fun e w' => e = .returned (.tuple #[]) ∧ w' = w.setCell ⟨b, 11, none⟩ (.int .i64 n) := by
  go_enter Tryz.func75, Tryz.ntmps75
  go_wp2_with fail
  refine (at_11 _ _).mono ?_
  rintro e w1 ⟨rfl, h1⟩
  rw [h1]
  clear h1 w1
  go_wp2_with fail
  exact ⟨rfl, .tuple #[], (by simp [results, Tryz.results75, go_sem]), rfl, rfl⟩
theorem at_12 (b : Nat) (w : World) : Calls Tryz.prog 47 #[.pointer (some ⟨b, 0, none⟩)] w fun e w' => e = .returned (.pointer (some ⟨b, 12, none⟩)) ∧ w' = w := by
  go_enter Tryz.func47, Tryz.ntmps47
  go_wp2_with fail
  (try go_ret)
  exact ⟨rfl, rfl⟩
theorem get_12 (b c : Nat) (x : Int) (w : World) (hc : w.cell? ⟨c, 0, none⟩ = some (.func (Fn.func 47) #[] #[])) (hb : w.cell? ⟨b, 12, none⟩ = some (.int .i64 x)) : Calls Tryz.prog 74 #[.pointer (some ⟨b, 0, none⟩), .pointer (some ⟨c, 0, none⟩)] w fun e w' => e = .returned (.int .i64 x) ∧ w' = w := by
  go_enter Tryz.func74, Tryz.ntmps74
  go_wp2_with fail
  refine (at_12 _ _).mono ?_
  rintro e w1 ⟨rfl, h1⟩
  rw [h1]
  clear h1 w1
  go_wp2_with fail
  (try go_ret)
  exact ⟨rfl, rfl⟩
theorem set_12 (b c : Nat) (x n : Int) (w : World) (hc : w.cell? ⟨c, 0, none⟩ = some (.func (Fn.func 47) #[] #[])) (hb : w.cell? ⟨b, 12, none⟩ = some (.int .i64 x)) (hf : w.frozen? ⟨b, 12, none⟩ = false) : Calls Tryz.prog 75 #[.pointer (some ⟨b, 0, none⟩), .int .i64 n, .pointer (some ⟨c, 0, none⟩)] w fun e w' => e = .returned (.tuple #[]) ∧ w' = w.setCell ⟨b, 12, none⟩ (.int .i64 n) := by
  go_enter Tryz.func75, Tryz.ntmps75
  go_wp2_with fail
  refine (at_12 _ _).mono ?_
  rintro e w1 ⟨rfl, h1⟩
  rw [h1]
  clear h1 w1
  go_wp2_with fail
  exact ⟨rfl, .tuple #[], (by simp [results, Tryz.results75, go_sem]), rfl, rfl⟩
theorem at_13 (b : Nat) (w : World) : Calls Tryz.prog 48 #[.pointer (some ⟨b, 0, none⟩)] w fun e w' => e = .returned (.pointer (some ⟨b, 13, none⟩)) ∧ w' = w := by
  go_enter Tryz.func48, Tryz.ntmps48
  go_wp2_with fail
  (try go_ret)
  exact ⟨rfl, rfl⟩
theorem get_13 (b c : Nat) (x : Int) (w : World) (hc : w.cell? ⟨c, 0, none⟩ = some (.func (Fn.func 48) #[] #[])) (hb : w.cell? ⟨b, 13, none⟩ = some (.int .i64 x)) : Calls Tryz.prog 74 #[.pointer (some ⟨b, 0, none⟩), .pointer (some ⟨c, 0, none⟩)] w fun e w' => e = .returned (.int .i64 x) ∧ w' = w := by
  go_enter Tryz.func74, Tryz.ntmps74
  go_wp2_with fail
  refine (at_13 _ _).mono ?_
  rintro e w1 ⟨rfl, h1⟩
  rw [h1]
  clear h1 w1
  go_wp2_with fail
  (try go_ret)
  exact ⟨rfl, rfl⟩
theorem set_13 (b c : Nat) (x n : Int) (w : World) (hc : w.cell? ⟨c, 0, none⟩ = some (.func (Fn.func 48) #[] #[])) (hb : w.cell? ⟨b, 13, none⟩ = some (.int .i64 x)) (hf : w.frozen? ⟨b, 13, none⟩ = false) : Calls Tryz.prog 75 #[.pointer (some ⟨b, 0, none⟩), .int .i64 n, .pointer (some ⟨c, 0, none⟩)] w fun e w' => e = .returned (.tuple #[]) ∧ w' = w.setCell ⟨b, 13, none⟩ (.int .i64 n) := by
  go_enter Tryz.func75, Tryz.ntmps75
  go_wp2_with fail
  refine (at_13 _ _).mono ?_
  rintro e w1 ⟨rfl, h1⟩
  rw [h1]
  clear h1 w1
  go_wp2_with fail
  exact ⟨rfl, .tuple #[], (by simp [results, Tryz.results75, go_sem]), rfl, rfl⟩
theorem at_14 (b : Nat) (w : World) : Calls Tryz.prog 49 #[.pointer (some ⟨b, 0, none⟩)] w fun e w' => e = .returned (.pointer (some ⟨b, 14, none⟩)) ∧ w' = w := by
  go_enter Tryz.func49, Tryz.ntmps49
  go_wp2_with fail
  (try go_ret)
  exact ⟨rfl, rfl⟩
theorem get_14 (b c : Nat) (x : Int) (w : World) (hc : w.cell? ⟨c, 0, none⟩ = some (.func (Fn.func 49) #[] #[])) (hb : w.cell? ⟨b, 14, none⟩ = some (.int .i64 x)) : Calls Tryz.prog 74 #[.pointer (some ⟨b, 0, none⟩), .pointer (some ⟨c, 0, none⟩)] w fun e w' => e = .returned (.int .i64 x) ∧ w' = w := by
  go_enter Tryz.func74, Tryz.ntmps74
  go_wp2_with fail
  refine (at_14 _ _).mono ?_
  rintro e w1 ⟨rfl, h1⟩
  rw [h1]
  clear h1 w1
  go_wp2_with fail
  (try go_ret)
  exact ⟨rfl, rfl⟩
theorem set_14 (b c : Nat) (x n : Int) (w : World) (hc : w.cell? ⟨c, 0, none⟩ = some (.func (Fn.func 49) #[] #[])) (hb : w.cell? ⟨b, 14, none⟩ = some (.int .i64 x)) (hf : w.frozen? ⟨b, 14, none⟩ = false) : Calls Tryz.prog 75 #[.pointer (some ⟨b, 0, none⟩), .int .i64 n, .pointer (some ⟨c, 0, none⟩)] w fun e w' => e = .returned (.tuple #[]) ∧ w' = w.setCell ⟨b, 14, none⟩ (.int .i64 n) := by
  go_enter Tryz.func75, Tryz.ntmps75
  go_wp2_with fail
  refine (at_14 _ _).mono ?_
  rintro e w1 ⟨rfl, h1⟩
  rw [h1]
  clear h1 w1
  go_wp2_with fail
  exact ⟨rfl, .tuple #[], (by simp [results, Tryz.results75, go_sem]), rfl, rfl⟩
theorem at_15 (b : Nat) (w : World) : Calls Tryz.prog 50 #[.pointer (some ⟨b, 0, none⟩)] w fun e w' => e = .returned (.pointer (some ⟨b, 15, none⟩)) ∧ w' = w := by
  go_enter Tryz.func50, Tryz.ntmps50
  go_wp2_with fail
  (try go_ret)
  exact ⟨rfl, rfl⟩
theorem get_15 (b c : Nat) (x : Int) (w : World) (hc : w.cell? ⟨c, 0, none⟩ = some (.func (Fn.func 50) #[] #[])) (hb : w.cell? ⟨b, 15, none⟩ = some (.int .i64 x)) : Calls Tryz.prog 74 #[.pointer (some ⟨b, 0, none⟩), .pointer (some ⟨c, 0, none⟩)] w fun e w' => e = .returned (.int .i64 x) ∧ w' = w := by
  go_enter Tryz.func74, Tryz.ntmps74
  go_wp2_with fail
  refine (at_15 _ _).mono ?_
  rintro e w1 ⟨rfl, h1⟩
  rw [h1]
  clear h1 w1
  go_wp2_with fail
  (try go_ret)
  exact ⟨rfl, rfl⟩
theorem set_15 (b c : Nat) (x n : Int) (w : World) (hc : w.cell? ⟨c, 0, none⟩ = some (.func (Fn.func 50) #[] #[])) (hb : w.cell? ⟨b, 15, none⟩ = some (.int .i64 x)) (hf : w.frozen? ⟨b, 15, none⟩ = false) : Calls Tryz.prog 75 #[.pointer (some ⟨b, 0, none⟩), .int .i64 n, .pointer (some ⟨c, 0, none⟩)] w fun e w' => e = .returned (.tuple #[]) ∧ w' = w.setCell ⟨b, 15, none⟩ (.int .i64 n) := by
  go_enter Tryz.func75, Tryz.ntmps75
  go_wp2_with fail
  refine (at_15 _ _).mono ?_
  rintro e w1 ⟨rfl, h1⟩
  rw [h1]
  clear h1 w1
  go_wp2_with fail
  exact ⟨rfl, .tuple #[], (by simp [results, Tryz.results75, go_sem]), rfl, rfl⟩
theorem at_16 (b : Nat) (w : World) : Calls Tryz.prog 51 #[.pointer (some ⟨b, 0, none⟩)] w fun e w' => e = .returned (.pointer (some ⟨b, 16, none⟩)) ∧ w' = w := by
  go_enter Tryz.func51, Tryz.ntmps51
  go_wp2_with fail
  (try go_ret)
  exact ⟨rfl, rfl⟩
theorem get_16 (b c : Nat) (x : Int) (w : World) (hc : w.cell? ⟨c, 0, none⟩ = some (.func (Fn.func 51) #[] #[])) (hb : w.cell? ⟨b, 16, none⟩ = some (.int .i64 x)) : Calls Tryz.prog 74 #[.pointer (some ⟨b, 0, none⟩), .pointer (some ⟨c, 0, none⟩)] w fun e w' => e = .returned (.int .i64 x) ∧ w' = w := by
  go_enter Tryz.func74, Tryz.ntmps74
  go_wp2_with fail
  refine (at_16 _ _).mono ?_
  rintro e w1 ⟨rfl, h1⟩
  rw [h1]
  clear h1 w1
  go_wp2_with fail
  (try go_ret)
  exact ⟨rfl, rfl⟩
theorem set_16 (b c : Nat) (x n : Int) (w : World) (hc : w.cell? ⟨c, 0, none⟩ = some (.func (Fn.func 51) #[] #[])) (hb : w.cell? ⟨b, 16, none⟩ = some (.int .i64 x)) (hf : w.frozen? ⟨b, 16, none⟩ = false) : Calls Tryz.prog 75 #[.pointer (some ⟨b, 0, none⟩), .int .i64 n, .pointer (some ⟨c, 0, none⟩)] w fun e w' => e = .returned (.tuple #[]) ∧ w' = w.setCell ⟨b, 16, none⟩ (.int .i64 n) := by
  go_enter Tryz.func75, Tryz.ntmps75
  go_wp2_with fail
  refine (at_16 _ _).mono ?_
  rintro e w1 ⟨rfl, h1⟩
  rw [h1]
  clear h1 w1
  go_wp2_with fail
  exact ⟨rfl, .tuple #[], (by simp [results, Tryz.results75, go_sem]), rfl, rfl⟩
theorem at_17 (b : Nat) (w : World) : Calls Tryz.prog 52 #[.pointer (some ⟨b, 0, none⟩)] w fun e w' => e = .returned (.pointer (some ⟨b, 17, none⟩)) ∧ w' = w := by
  go_enter Tryz.func52, Tryz.ntmps52
  go_wp2_with fail
  (try go_ret)
  exact ⟨rfl, rfl⟩
theorem get_17 (b c : Nat) (x : Int) (w : World) (hc : w.cell? ⟨c, 0, none⟩ = some (.func (Fn.func 52) #[] #[])) (hb : w.cell? ⟨b, 17, none⟩ = some (.int .i64 x)) : Calls Tryz.prog 74 #[.pointer (some ⟨b, 0, none⟩), .pointer (some ⟨c, 0, none⟩)] w fun e w' => e = .returned (.int .i64 x) ∧ w' = w := by
  go_enter Tryz.func74, Tryz.ntmps74
  go_wp2_with fail
  refine (at_17 _ _).mono ?_
  rintro e w1 ⟨rfl, h1⟩
  rw [h1]
  clear h1 w1
  go_wp2_with fail
  (try go_ret)
  exact ⟨rfl, rfl⟩
theorem set_17 (b c : Nat) (x n : Int) (w : World) (hc : w.cell? ⟨c, 0, none⟩ = some (.func (Fn.func 52) #[] #[])) (hb : w.cell? ⟨b, 17, none⟩ = some (.int .i64 x)) (hf : w.frozen? ⟨b, 17, none⟩ = false) : Calls Tryz.prog 75 #[.pointer (some ⟨b, 0, none⟩), .int .i64 n, .pointer (some ⟨c, 0, none⟩)] w fun e w' => e = .returned (.tuple #[]) ∧ w' = w.setCell ⟨b, 17, none⟩ (.int .i64 n) := by
  go_enter Tryz.func75, Tryz.ntmps75
  go_wp2_with fail
  refine (at_17 _ _).mono ?_
  rintro e w1 ⟨rfl, h1⟩
  rw [h1]
  clear h1 w1
  go_wp2_with fail
  exact ⟨rfl, .tuple #[], (by simp [results, Tryz.results75, go_sem]), rfl, rfl⟩
end Go.Proofs.YtaekeogaakogbaaGreatDoor
