/- The contracts of code.listOf, code.one, code.all, code.value and code.mention. Conditions: the package variables read as laid; at most 2147483647 events a list. -/
import Derived.Test.YtbhpjpeknooppaaDoorK05
import Derived.IntWalk
import Derived.LoopTactic
import Derived.StillTailTactics
namespace Go.Proofs.YtbhpjpeknooppaaDoor.M
open Go.RowKit Go.Proofs.YtbhpjpeknooppaaDoorW.PrintWords Go.Proofs.YtbhpjpeknooppaaDoorW.PrintLast Go.Proofs.YtbhpjpeknooppaaDoorW.PrintMore
open Go.Proofs.YtbhpjpeknooppaaDoor.PCodeSpares
set_option linter.unusedVariables false
set_option linter.unusedSimpArgs false
structure S73 where
 f0 : Int
 f1 : Int
 f2 : Int
 f3 : Int
 f4 : Int
 f5 : Int
 f6 : Int
 f7 : Int
 f8 : Int
 f9 : Int
 f10 : Int
def z73 : S73 := ⟨(0 : Int), (0 : Int), (0 : Int), (0 : Int), (0 : Int), (0 : Int), (0 : Int), (0 : Int), (0 : Int), (0 : Int), (0 : Int)⟩
def k73 : Kd S73 := Kd.iso (Kd.pair (Kd.int .i64) (Kd.pair (Kd.int .u64) (Kd.pair (Kd.int .i64) (Kd.pair (Kd.int .i64) (Kd.pair (Kd.int .i64) (Kd.pair (Kd.int .i64) (Kd.pair (Kd.int .i64) (Kd.pair (Kd.int .i64) (Kd.pair (Kd.int .i64) (Kd.pair (Kd.int .i64) (Kd.int .i64))))))))))) (fun x : S73 => (x.f0, x.f1, x.f2, x.f3, x.f4, x.f5, x.f6, x.f7, x.f8, x.f9, x.f10))
theorem k73_open {w : World} {x : S73} {cs : List Value} (h : k73.K w x cs) : cs = [.int .i64 x.f0, .int .u64 x.f1, .int .i64 x.f2, .int .i64 x.f3, .int .i64 x.f4, .int .i64 x.f5, .int .i64 x.f6, .int .i64 x.f7, .int .i64 x.f8, .int .i64 x.f9, .int .i64 x.f10] := by
 obtain ⟨_, _, rfl, rfl, ⟨_, _, rfl, rfl, ⟨_, _, rfl, rfl, ⟨_, _, rfl, rfl, ⟨_, _, rfl, rfl, ⟨_, _, rfl, rfl, ⟨_, _, rfl, rfl, ⟨_, _, rfl, rfl, ⟨_, _, rfl, rfl, ⟨_, _, rfl, rfl, rfl⟩⟩⟩⟩⟩⟩⟩⟩⟩⟩ := h
 exact rfl
theorem k73_mk (w : World) (x : S73)  : k73.K w x [.int .i64 x.f0, .int .u64 x.f1, .int .i64 x.f2, .int .i64 x.f3, .int .i64 x.f4, .int .i64 x.f5, .int .i64 x.f6, .int .i64 x.f7, .int .i64 x.f8, .int .i64 x.f9, .int .i64 x.f10] := ⟨[.int .i64 x.f0], [.int .u64 x.f1, .int .i64 x.f2, .int .i64 x.f3, .int .i64 x.f4, .int .i64 x.f5, .int .i64 x.f6, .int .i64 x.f7, .int .i64 x.f8, .int .i64 x.f9, .int .i64 x.f10], rfl, rfl, ⟨[.int .u64 x.f1], [.int .i64 x.f2, .int .i64 x.f3, .int .i64 x.f4, .int .i64 x.f5, .int .i64 x.f6, .int .i64 x.f7, .int .i64 x.f8, .int .i64 x.f9, .int .i64 x.f10], rfl, rfl, ⟨[.int .i64 x.f2], [.int .i64 x.f3, .int .i64 x.f4, .int .i64 x.f5, .int .i64 x.f6, .int .i64 x.f7, .int .i64 x.f8, .int .i64 x.f9, .int .i64 x.f10], rfl, rfl, ⟨[.int .i64 x.f3], [.int .i64 x.f4, .int .i64 x.f5, .int .i64 x.f6, .int .i64 x.f7, .int .i64 x.f8, .int .i64 x.f9, .int .i64 x.f10], rfl, rfl, ⟨[.int .i64 x.f4], [.int .i64 x.f5, .int .i64 x.f6, .int .i64 x.f7, .int .i64 x.f8, .int .i64 x.f9, .int .i64 x.f10], rfl, rfl, ⟨[.int .i64 x.f5], [.int .i64 x.f6, .int .i64 x.f7, .int .i64 x.f8, .int .i64 x.f9, .int .i64 x.f10], rfl, rfl, ⟨[.int .i64 x.f6], [.int .i64 x.f7, .int .i64 x.f8, .int .i64 x.f9, .int .i64 x.f10], rfl, rfl, ⟨[.int .i64 x.f7], [.int .i64 x.f8, .int .i64 x.f9, .int .i64 x.f10], rfl, rfl, ⟨[.int .i64 x.f8], [.int .i64 x.f9, .int .i64 x.f10], rfl, rfl, ⟨[.int .i64 x.f9], [.int .i64 x.f10], rfl, rfl, rfl⟩⟩⟩⟩⟩⟩⟩⟩⟩⟩
def rd_T73 (xs : List S73) (i : Int) : S73 := xs.getD i.toNat z73
theorem at_T73 {w : World} {A : Option Addr} {n : Nat} {xs : List S73} (h : Kd.C k73 w A n xs) (i : Int) (h0 : 0 ≤ i) (h1 : i < n) : ∃ ad , A = some ad ∧ w.cell? (ad.add (i.toNat * 11)) = some (.int .i64 (rd_T73 xs i).f0) ∧ w.cell? ⟨(ad.add (i.toNat * 11)).block, (ad.add (i.toNat * 11)).off + 1, none⟩ = some (.int .u64 (rd_T73 xs i).f1) ∧ w.cell? ⟨(ad.add (i.toNat * 11)).block, (ad.add (i.toNat * 11)).off + 2, none⟩ = some (.int .i64 (rd_T73 xs i).f2) ∧ w.cell? ⟨(ad.add (i.toNat * 11)).block, (ad.add (i.toNat * 11)).off + 3, none⟩ = some (.int .i64 (rd_T73 xs i).f3) ∧ w.cell? ⟨(ad.add (i.toNat * 11)).block, (ad.add (i.toNat * 11)).off + 4, none⟩ = some (.int .i64 (rd_T73 xs i).f4) ∧ w.cell? ⟨(ad.add (i.toNat * 11)).block, (ad.add (i.toNat * 11)).off + 5, none⟩ = some (.int .i64 (rd_T73 xs i).f5) ∧ w.cell? ⟨(ad.add (i.toNat * 11)).block, (ad.add (i.toNat * 11)).off + 6, none⟩ = some (.int .i64 (rd_T73 xs i).f6) ∧ w.cell? ⟨(ad.add (i.toNat * 11)).block, (ad.add (i.toNat * 11)).off + 7, none⟩ = some (.int .i64 (rd_T73 xs i).f7) ∧ w.cell? ⟨(ad.add (i.toNat * 11)).block, (ad.add (i.toNat * 11)).off + 8, none⟩ = some (.int .i64 (rd_T73 xs i).f8) ∧ w.cell? ⟨(ad.add (i.toNat * 11)).block, (ad.add (i.toNat * 11)).off + 9, none⟩ = some (.int .i64 (rd_T73 xs i).f9) ∧ w.cell? ⟨(ad.add (i.toNat * 11)).block, (ad.add (i.toNat * 11)).off + 10, none⟩ = some (.int .i64 (rd_T73 xs i).f10) := by
 obtain ⟨ad, c, e, _, hK, hc0⟩ := Kd.C_get h z73 i h0 h1
 have hc : ∀ j u, c[j]? = some u → w.cell? (ad.add (i.toNat * 11 + j)) = some u := hc0
 obtain rfl := k73_open hK
 exact ⟨ad, e, hc 0 _ rfl, by rw [← add_field _ _ 1 (by omega)]; exact hc 1 _ rfl, by rw [← add_field _ _ 2 (by omega)]; exact hc 2 _ rfl, by rw [← add_field _ _ 3 (by omega)]; exact hc 3 _ rfl, by rw [← add_field _ _ 4 (by omega)]; exact hc 4 _ rfl, by rw [← add_field _ _ 5 (by omega)]; exact hc 5 _ rfl, by rw [← add_field _ _ 6 (by omega)]; exact hc 6 _ rfl, by rw [← add_field _ _ 7 (by omega)]; exact hc 7 _ rfl, by rw [← add_field _ _ 8 (by omega)]; exact hc 8 _ rfl, by rw [← add_field _ _ 9 (by omega)]; exact hc 9 _ rfl, by rw [← add_field _ _ 10 (by omega)]; exact hc 10 _ rfl⟩
def rd_L73 (xs : List (List S73)) (i : Int) : (List S73) := xs.getD i.toNat ([] : List S73)
theorem at_L73 {w : World} {A : Option Addr} {n : Nat} {xs : List (List S73)} (h : Kd.C (Kd.slice 73 k73) w A n xs) (i : Int) (h0 : 0 ≤ i) (h1 : i < n) : ∃ ad A0 c0, A = some ad ∧ w.cell? (ad.add i.toNat) = some (.slice A0 (rd_L73 xs i).length c0) ∧ (rd_L73 xs i).length ≤ c0 ∧ k73.C w A0 (rd_L73 xs i).length (rd_L73 xs i) := by
 obtain ⟨ad, c, e, _, hK, hc0⟩ := Kd.C_get h ([] : List S73) i h0 h1
 have hc : ∀ j u, c[j]? = some u → w.cell? (ad.add (i.toNat * 1 + j)) = some u := hc0
 obtain ⟨A0, c0, rfl, l0, g0⟩ := hK
 exact ⟨ad, A0, c0, e, by have hq := hc 0 _ rfl; rwa [Nat.mul_one, Nat.add_zero] at hq, l0, g0⟩
def attrV (e : S73) (i : Int) : Int := if i = 0 then e.f3 else if i = 1 then e.f4 else if i = 2 then e.f5 else if i = 3 then e.f6 else if i = 4 then e.f7 else if i = 5 then e.f8 else if i = 6 then e.f9 else e.f10
def valueV (e : S73) (i : Int) : Bool × Int := if i = -2 then (true, e.f0) else if 0 ≤ i ∧ i < 8 then (true, attrV e i) else (false, 0)
set_option maxHeartbeats 4000000 in
set_option maxRecDepth 100000 in
theorem code_value (e : S73) (i : Int) (w : World) :
  Calls Tryd.prog 49 #[.agg #[.int .i64 e.f0, .int .u64 e.f1, .int .i64 e.f2, .int .i64 e.f3, .int .i64 e.f4, .int .i64 e.f5, .int .i64 e.f6, .int .i64 e.f7, .int .i64 e.f8, .int .i64 e.f9, .int .i64 e.f10], .int .i64 i] w fun x w' => x = .returned (.agg #[.bool (valueV e i).1, .int .i64 (valueV e i).2]) ∧ Below w.heap.size w w' := by
 by_cases h2 : i = -2
 ·subst h2
  have HE := am (show valueV e (-2) = (true, e.f0) from rfl)
  go_enter Tryd.func49, Tryd.ntmps49
  go_wp2
  refine bodyPost_ret (v := .agg #[.bool true, .int .i64 (e.f0)]) (by simp [results, Tryd.results49, go_sem, *]) rfl ⟨by rw [HE.out], (by repeat (first | exact Below.refl _ _ | refine below_set ?_ (by omega) | refine below_set ?_ (by simp; done) | apply below_alloc | apply pw_below_drewN | apply below_drew1))⟩
 have e2 : (i == -2) = false := by simpa using h2
 by_cases hp : 0 ≤ i ∧ i < 8
 ·obtain rfl | rfl | rfl | rfl | rfl | rfl | rfl | rfl : i = 0 ∨ i = 1 ∨ i = 2 ∨ i = 3 ∨ i = 4 ∨ i = 5 ∨ i = 6 ∨ i = 7 := by omega
  ·have HE := am (show valueV e 0 = (true, e.f3) from rfl)
   go_enter Tryd.func49, Tryd.ntmps49
   go_wp2
   refine bodyPost_ret (v := .agg #[.bool true, .int .i64 (e.f3)]) (by simp [results, Tryd.results49, go_sem, *]) rfl ⟨by rw [HE.out], (by repeat (first | exact Below.refl _ _ | refine below_set ?_ (by omega) | refine below_set ?_ (by simp; done) | apply below_alloc | apply pw_below_drewN | apply below_drew1))⟩
  ·have HE := am (show valueV e 1 = (true, e.f4) from rfl)
   go_enter Tryd.func49, Tryd.ntmps49
   go_wp2
   refine bodyPost_ret (v := .agg #[.bool true, .int .i64 (e.f4)]) (by simp [results, Tryd.results49, go_sem, *]) rfl ⟨by rw [HE.out], (by repeat (first | exact Below.refl _ _ | refine below_set ?_ (by omega) | refine below_set ?_ (by simp; done) | apply below_alloc | apply pw_below_drewN | apply below_drew1))⟩
  ·have HE := am (show valueV e 2 = (true, e.f5) from rfl)
   go_enter Tryd.func49, Tryd.ntmps49
   go_wp2
   refine bodyPost_ret (v := .agg #[.bool true, .int .i64 (e.f5)]) (by simp [results, Tryd.results49, go_sem, *]) rfl ⟨by rw [HE.out], (by repeat (first | exact Below.refl _ _ | refine below_set ?_ (by omega) | refine below_set ?_ (by simp; done) | apply below_alloc | apply pw_below_drewN | apply below_drew1))⟩
  ·have HE := am (show valueV e 3 = (true, e.f6) from rfl)
   go_enter Tryd.func49, Tryd.ntmps49
   go_wp2
   refine bodyPost_ret (v := .agg #[.bool true, .int .i64 (e.f6)]) (by simp [results, Tryd.results49, go_sem, *]) rfl ⟨by rw [HE.out], (by repeat (first | exact Below.refl _ _ | refine below_set ?_ (by omega) | refine below_set ?_ (by simp; done) | apply below_alloc | apply pw_below_drewN | apply below_drew1))⟩
  ·have HE := am (show valueV e 4 = (true, e.f7) from rfl)
   go_enter Tryd.func49, Tryd.ntmps49
   go_wp2
   refine bodyPost_ret (v := .agg #[.bool true, .int .i64 (e.f7)]) (by simp [results, Tryd.results49, go_sem, *]) rfl ⟨by rw [HE.out], (by repeat (first | exact Below.refl _ _ | refine below_set ?_ (by omega) | refine below_set ?_ (by simp; done) | apply below_alloc | apply pw_below_drewN | apply below_drew1))⟩
  ·have HE := am (show valueV e 5 = (true, e.f8) from rfl)
   go_enter Tryd.func49, Tryd.ntmps49
   go_wp2
   refine bodyPost_ret (v := .agg #[.bool true, .int .i64 (e.f8)]) (by simp [results, Tryd.results49, go_sem, *]) rfl ⟨by rw [HE.out], (by repeat (first | exact Below.refl _ _ | refine below_set ?_ (by omega) | refine below_set ?_ (by simp; done) | apply below_alloc | apply pw_below_drewN | apply below_drew1))⟩
  ·have HE := am (show valueV e 6 = (true, e.f9) from rfl)
   go_enter Tryd.func49, Tryd.ntmps49
   go_wp2
   refine bodyPost_ret (v := .agg #[.bool true, .int .i64 (e.f9)]) (by simp [results, Tryd.results49, go_sem, *]) rfl ⟨by rw [HE.out], (by repeat (first | exact Below.refl _ _ | refine below_set ?_ (by omega) | refine below_set ?_ (by simp; done) | apply below_alloc | apply pw_below_drewN | apply below_drew1))⟩
  have HE := am (show valueV e 7 = (true, e.f10) from rfl)
  go_enter Tryd.func49, Tryd.ntmps49
  go_wp2
  refine bodyPost_ret (v := .agg #[.bool true, .int .i64 (e.f10)]) (by simp [results, Tryd.results49, go_sem, *]) rfl ⟨by rw [HE.out], (by repeat (first | exact Below.refl _ _ | refine below_set ?_ (by omega) | refine below_set ?_ (by simp; done) | apply below_alloc | apply pw_below_drewN | apply below_drew1))⟩
 have HE := am (show valueV e i = (false, 0) from by rw [valueV, if_neg h2, if_neg hp])
 by_cases h0 : 0 ≤ i
 ·have d0 : decide (0 ≤ i) = true := by simpa using h0
  have d1 : decide (i < 8) = false := by simp; omega
  clear h0 hp h2
  go_enter Tryd.func49, Tryd.ntmps49
  go_wp2
  refine bodyPost_ret (v := .agg #[.bool false, .int .i64 (0)]) (by simp [results, Tryd.results49, go_sem, *]) rfl ⟨by rw [HE.out], (by repeat (first | exact Below.refl _ _ | refine below_set ?_ (by omega) | refine below_set ?_ (by simp; done) | apply below_alloc | apply pw_below_drewN | apply below_drew1))⟩
 have d0 : decide (0 ≤ i) = false := by simpa using h0
 clear h0 hp h2
 go_enter Tryd.func49, Tryd.ntmps49
 go_wp2
 refine bodyPost_ret (v := .agg #[.bool false, .int .i64 (0)]) (by simp [results, Tryd.results49, go_sem, *]) rfl ⟨by rw [HE.out], (by repeat (first | exact Below.refl _ _ | refine below_set ?_ (by omega) | refine below_set ?_ (by simp; done) | apply below_alloc | apply pw_below_drewN | apply below_drew1))⟩
end Go.Proofs.YtbhpjpeknooppaaDoor.M
namespace Go.Proofs.YtbhpjpeknooppaaDoor.M
open Go.RowKit Go.Proofs.YtbhpjpeknooppaaDoorW.PrintWords Go.Proofs.YtbhpjpeknooppaaDoorW.PrintLast Go.Proofs.YtbhpjpeknooppaaDoorW.PrintMore
open Go.Proofs.YtbhpjpeknooppaaDoor.PCodeSpares
set_option linter.unusedVariables false
set_option linter.unusedSimpArgs false
def listV (L : List (List S73)) (item : Int) : List S73 := if item < 0 ∨ (L.length : Int) ≤ item then [] else rd_L73 L item
def ListPost (L : List (List S73)) (item : Int) (w : World) (e : Ending) (w' : World) : Prop :=
 ∃ A c, e = .returned (.slice A (listV L item).length c) ∧ (listV L item).length ≤ c ∧ Kd.C k73 w' A (listV L item).length (listV L item) ∧ Below w.heap.size w w'
theorem Cnil {α : Type} (d : Kd α) (w : World) : d.C w none 0 ([] : List α) := Kd.C_nil d w
set_option maxHeartbeats 1000000 in
set_option maxRecDepth 100000 in
theorem code_listOf (A : Option Addr) (c : Nat) (L : List (List S73)) (each at_ item : Int) (w : World) (hr : Kd.C (Kd.slice 73 k73) w A L.length L) :
  Calls Tryd.prog 31 #[.agg #[.slice A L.length c, .int .i64 each, .int .i64 at_], .int .i64 item] w (ListPost L item w) := by
 have HR := am hr
 clear hr
 by_cases h0 : item < 0
 ·have d0 : decide (item < 0) = true := by simpa using h0
  have HE := am (show listV L item = [] from by rw [listV, if_pos (.inl h0)])
  clear h0
  go_enter Tryd.func31, Tryd.ntmps31
  go_wp2
  go_ret
  refine ⟨none, 0, ?_, ?_, ?_, ?_⟩
  ·rw [HE.out]; rfl
  ·rw [HE.out]; exact Nat.le_refl _
  ·rw [HE.out]; exact Cnil _ _
  exact below_alloc (Below.refl _ _) _
 have d0 : decide (item < 0) = false := by simpa using h0
 by_cases h1 : (L.length : Int) ≤ item
 ·have d1 : decide ((L.length : Int) ≤ item) = true := by simpa using h1
  have HE := am (show listV L item = [] from by rw [listV, if_pos (.inr h1)])
  clear h0 h1
  go_enter Tryd.func31, Tryd.ntmps31
  go_wp2
  go_ret
  refine ⟨none, 0, ?_, ?_, ?_, ?_⟩
  ·rw [HE.out]; rfl
  ·rw [HE.out]; exact Nat.le_refl _
  ·rw [HE.out]; exact Cnil _ _
  exact below_alloc (Below.refl _ _) _
 have d1 : decide ((L.length : Int) ≤ item) = false := by simpa using h1
 have HE := am (show listV L item = rd_L73 L item from by rw [listV, if_neg (by omega)])
 obtain ⟨ad, A0, c0, rfl, hcell, hl, hC⟩ := at_L73 HR.out item (by omega) (by omega)
 have hC' := am hC
 have hl' := am hl
 have q0 : 0 ≤ item := by omega
 have q1 : item < (L.length : Int) := by omega
 clear h0 h1 hC hl
 have hlt : (ad.add item.toNat).block < w.heap.size := World.block_lt_of_cell? w _ hcell
 have hc1 : ∀ o, (w.alloc o).cell? (ad.add item.toNat) = some (.slice A0 (rd_L73 L item).length c0) := fun o => pw_cell_below (below_alloc (Below.refl _ _) o) hcell
 go_enter Tryd.func31, Tryd.ntmps31
 go_wp2
 go_ret
 refine ⟨A0, c0, ?_, ?_, ?_, ?_⟩
 ·rw [HE.out]; rfl
 ·rw [HE.out]; exact hl'.out
 ·rw [HE.out]; exact Kd.C_below hC'.out (below_alloc (Below.refl _ _) _)
 exact below_alloc (Below.refl _ _) _
def oneV (l : List S73) (at_ : Int) (col : List Int) : Bool × Int :=
 if at_ < 0 ∨ (l.length : Int) ≤ at_ then (false, 0) else if (rd_T73 l at_).f2 < 0 ∨ (col.length : Int) ≤ (rd_T73 l at_).f2 then (false, 0) else valueV (rd_T73 l at_) (rd col (rd_T73 l at_).f2)
set_option maxHeartbeats 4000000 in
set_option maxRecDepth 100000 in
theorem code_one (A : Option Addr) (c : Nat) (l : List S73) (at_ : Int) (B : Option Addr) (c2 : Nat) (col : List Int) (w : World) (hr : Kd.C k73 w A l.length l) (hcol : Kd.C (Kd.int .i64) w B col.length col) :
  Calls Tryd.prog 32 #[.slice A l.length c, .int .i64 at_, .slice B col.length c2] w fun e w' => e = .returned (.agg #[.bool (oneV l at_ col).1, .int .i64 (oneV l at_ col).2]) ∧ Below w.heap.size w w' := by
 have HR := am hr
 have HC := am hcol
 clear hr hcol
 by_cases h0' : at_ < 0
 ·have HE := am (show oneV l at_ col = (false, 0) from by rw [oneV, if_pos (.inl h0')])
  have e0 : decide (at_ < 0) = true := by simpa using h0'
  clear h0'
  go_enter Tryd.func32, Tryd.ntmps32
  go_wp2_with ((with_reducible refine gate_dst (N := 6) rfl ?_); refine box_event ?hg (N := 6) ?hd (cs := #[.bool false, .int .i64 0]) (t := 50) ?hr ?_; (case hd => rfl); (case hg => rfl); (case hr => first | (go_simp; done) | (go_simp; rfl)); intro gb hgb w2 hbox hb; have HB := am hb; have BK := am hbox; have GE := am (Nat.le_of_eq hgb.symm); have R2 := am (Kd.C_below HR.out hb); have C2 := am (Kd.C_below HC.out hb); have x0 : w2.cell? ⟨gb, 0, none⟩ = some (.bool false) := (blk_cell BK.out 0).trans rfl; have x1 : w2.cell? ⟨gb, 1, none⟩ = some (.int .i64 0) := (blk_cell BK.out 1).trans rfl; have y0 := blk_frozen BK.out 0; have y1 := blk_frozen BK.out 1; clear hb hbox hgb)
  refine bodyPost_ret (v := .agg #[.bool false, .int .i64 0]) (by simp [results, Tryd.results32, go_sem, *]) rfl ⟨by rw [HE.out], ?_⟩
  exact below_set (below_set HB.out GE.out) GE.out
 have h0 : 0 ≤ at_ := by omega
 have e0 : decide (at_ < 0) = false := by simpa using h0
 clear h0'
 by_cases h1' : (l.length : Int) ≤ at_
 ·have HE := am (show oneV l at_ col = (false, 0) from by rw [oneV, if_pos (.inr h1')])
  have e1 : decide ((l.length : Int) ≤ at_) = true := by simpa using h1'
  clear h1' h0
  go_enter Tryd.func32, Tryd.ntmps32
  go_wp2_with ((with_reducible refine gate_dst (N := 6) rfl ?_); refine box_event ?hg (N := 6) ?hd (cs := #[.bool false, .int .i64 0]) (t := 50) ?hr ?_; (case hd => rfl); (case hg => rfl); (case hr => first | (go_simp; done) | (go_simp; rfl)); intro gb hgb w2 hbox hb; have HB := am hb; have BK := am hbox; have GE := am (Nat.le_of_eq hgb.symm); have R2 := am (Kd.C_below HR.out hb); have C2 := am (Kd.C_below HC.out hb); have x0 : w2.cell? ⟨gb, 0, none⟩ = some (.bool false) := (blk_cell BK.out 0).trans rfl; have x1 : w2.cell? ⟨gb, 1, none⟩ = some (.int .i64 0) := (blk_cell BK.out 1).trans rfl; have y0 := blk_frozen BK.out 0; have y1 := blk_frozen BK.out 1; clear hb hbox hgb)
  refine bodyPost_ret (v := .agg #[.bool false, .int .i64 0]) (by simp [results, Tryd.results32, go_sem, *]) rfl ⟨by rw [HE.out], ?_⟩
  exact below_set (below_set HB.out GE.out) GE.out
 have h1 : at_ < (l.length : Int) := by omega
 have e1 : decide ((l.length : Int) ≤ at_) = false := by simpa using h1
 clear h1'
 by_cases h2' : (rd_T73 l at_).f2 < 0
 ·have HE := am (show oneV l at_ col = (false, 0) from by rw [oneV, if_neg (by omega), if_pos (.inl h2')])
  have e2 : decide ((rd_T73 l at_).f2 < 0) = true := by simpa using h2'
  clear h2'
  go_enter Tryd.func32, Tryd.ntmps32
  go_wp2_with ((with_reducible refine gate_dst (N := 6) rfl ?_); refine box_event ?hg (N := 6) ?hd (cs := #[.bool false, .int .i64 0]) (t := 50) ?hr ?_; (case hd => rfl); (case hg => rfl); (case hr => first | (go_simp; done) | (go_simp; rfl)); intro gb hgb w2 hbox hb; have HB := am hb; have BK := am hbox; have GE := am (Nat.le_of_eq hgb.symm); have R2 := am (Kd.C_below HR.out hb); have C2 := am (Kd.C_below HC.out hb); have x0 : w2.cell? ⟨gb, 0, none⟩ = some (.bool false) := (blk_cell BK.out 0).trans rfl; have x1 : w2.cell? ⟨gb, 1, none⟩ = some (.int .i64 0) := (blk_cell BK.out 1).trans rfl; have y0 := blk_frozen BK.out 0; have y1 := blk_frozen BK.out 1; clear hb hbox hgb; obtain ⟨ad, rfl, g0, g1, g2, g3, g4, g5, g6, g7, g8, g9, g10⟩ := at_T73 R2.out at_ h0 h1)
  refine bodyPost_ret (v := .agg #[.bool false, .int .i64 0]) (by simp [results, Tryd.results32, go_sem, *]) rfl ⟨by rw [HE.out], ?_⟩
  exact below_set (below_set HB.out GE.out) GE.out
 have h2 : 0 ≤ (rd_T73 l at_).f2 := by omega
 have e2 : decide ((rd_T73 l at_).f2 < 0) = false := by simpa using h2
 clear h2'
 by_cases h3' : (col.length : Int) ≤ (rd_T73 l at_).f2
 ·have HE := am (show oneV l at_ col = (false, 0) from by rw [oneV, if_neg (by omega), if_pos (.inr h3')])
  have e3 : decide ((col.length : Int) ≤ (rd_T73 l at_).f2) = true := by simpa using h3'
  clear h3' h2
  go_enter Tryd.func32, Tryd.ntmps32
  go_wp2_with ((with_reducible refine gate_dst (N := 6) rfl ?_); refine box_event ?hg (N := 6) ?hd (cs := #[.bool false, .int .i64 0]) (t := 50) ?hr ?_; (case hd => rfl); (case hg => rfl); (case hr => first | (go_simp; done) | (go_simp; rfl)); intro gb hgb w2 hbox hb; have HB := am hb; have BK := am hbox; have GE := am (Nat.le_of_eq hgb.symm); have R2 := am (Kd.C_below HR.out hb); have C2 := am (Kd.C_below HC.out hb); have x0 : w2.cell? ⟨gb, 0, none⟩ = some (.bool false) := (blk_cell BK.out 0).trans rfl; have x1 : w2.cell? ⟨gb, 1, none⟩ = some (.int .i64 0) := (blk_cell BK.out 1).trans rfl; have y0 := blk_frozen BK.out 0; have y1 := blk_frozen BK.out 1; clear hb hbox hgb; obtain ⟨ad, rfl, g0, g1, g2, g3, g4, g5, g6, g7, g8, g9, g10⟩ := at_T73 R2.out at_ h0 h1)
  refine bodyPost_ret (v := .agg #[.bool false, .int .i64 0]) (by simp [results, Tryd.results32, go_sem, *]) rfl ⟨by rw [HE.out], ?_⟩
  exact below_set (below_set HB.out GE.out) GE.out
 have h3 : (rd_T73 l at_).f2 < (col.length : Int) := by omega
 have e3 : decide ((col.length : Int) ≤ (rd_T73 l at_).f2) = false := by simpa using h3
 clear h3'
 have HE := am (show oneV l at_ col = valueV (rd_T73 l at_) (rd col (rd_T73 l at_).f2) from by rw [oneV, if_neg (by omega), if_neg (by omega)])
 go_enter Tryd.func32, Tryd.ntmps32
 go_wp2_with ((with_reducible refine gate_dst (N := 6) rfl ?_); refine box_event ?hg (N := 6) ?hd (cs := #[.bool false, .int .i64 0]) (t := 50) ?hr ?_; (case hd => rfl); (case hg => rfl); (case hr => first | (go_simp; done) | (go_simp; rfl)); intro gb hgb w2 hbox hb; have HB := am hb; have BK := am hbox; have GE := am (Nat.le_of_eq hgb.symm); have R2 := am (Kd.C_below HR.out hb); have C2 := am (Kd.C_below HC.out hb); have x0 : w2.cell? ⟨gb, 0, none⟩ = some (.bool false) := (blk_cell BK.out 0).trans rfl; have x1 : w2.cell? ⟨gb, 1, none⟩ = some (.int .i64 0) := (blk_cell BK.out 1).trans rfl; have y0 := blk_frozen BK.out 0; have y1 := blk_frozen BK.out 1; clear hb hbox hgb; obtain ⟨ad, rfl, g0, g1, g2, g3, g4, g5, g6, g7, g8, g9, g10⟩ := at_T73 R2.out at_ h0 h1; obtain ⟨bd, rfl, hcc⟩ := ReadsInt.at_ (readsInt_of.2 (Kd.reads_of_C (d := (0 : Int)) C2.out)) _ h2 h3; clear x0 x1 y0 y1)
 go_still_tail 12, (by kernel_rfl)
 go_wp2_with (go_at_call 49; refine (code_value _ _ _).mono ?_; rintro e w' ⟨rfl, hb⟩; have B2 := am (blk_below (blk_drew BK.out) hb); have c0 : w'.cell? ⟨gb, 0, none⟩ = some (.bool false) := (blk_cell B2.out 0).trans rfl; have c1 : w'.cell? ⟨gb, 1, none⟩ = some (.int .i64 0) := (blk_cell B2.out 1).trans rfl; have f0 := blk_frozen B2.out 0; have f1 := blk_frozen B2.out 1)
 refine bodyPost_ret (v := .agg #[.bool (valueV (rd_T73 l at_) (rd col (rd_T73 l at_).f2)).1, .int .i64 (valueV (rd_T73 l at_) (rd col (rd_T73 l at_).f2)).2]) (by simp [results, Tryd.results32, go_sem, *]) rfl ⟨by rw [HE.out], ?_⟩
 exact below_set (below_set (below_step (below_drew1 HB.out) hb) GE.out) GE.out
end Go.Proofs.YtbhpjpeknooppaaDoor.M
namespace Go.Proofs.YtbhpjpeknooppaaDoor.M
open Go.RowKit Go.Proofs.YtbhpjpeknooppaaDoorW.PrintWords Go.Proofs.YtbhpjpeknooppaaDoorW.PrintLast Go.Proofs.YtbhpjpeknooppaaDoorW.PrintMore
open Go.Proofs.YtbhpjpeknooppaaDoor.PCodeSpares
set_option linter.unusedVariables false
set_option linter.unusedSimpArgs false
theorem info2 : (Tryd.prog.info? 2).map (fun i => (i.zero, i.size, i.bytes)) = some (some (.int .i64 0), 1, 8) := by kernel_rfl
section
variable {P : Program} {ops : Array Oper} {rest : List Oper} {o : Oper} {a : Act} {Q : Exit → Act → World → Prop}
theorem make0_event {α : Type} {enc : α → Value} {h1 : ∀ x, (enc x).oneCell' = true} {W : World} (base : Nat) (hgd : o.guard = none) (t e : TypeId) (z : Value) (bytes : Nat) (x y : Operand) (ho : o.op = .makeSlice t x y)
  (ht : P.underlying t = some (.slice e)) (hinfo : (P.info? e).map (fun i => (i.zero, i.size, i.bytes)) = some (some z, 1, bytes)) (n : Nat) (hx : a.eval x = .int .i64 0) (hy : a.eval y = .int .i64 n)
  (hn : bytes * n ≤ 281474976710656) (hm : n ≤ 9223372036854775807) (hb : base ≤ W.heap.size)
  (h : ∀ v w1, (Kd.scalar enc h1).R e w1 base (fun _ => True) v ([] : List α) → Below W.heap.size W w1 → wpList P ops Q rest (a.put o.dst v) w1) : wpList P ops Q (o :: rest) a W := by
 obtain ⟨i, hi, hz0, hz1, hz2⟩ : ∃ i, P.info? e = some i ∧ i.zero = some z ∧ i.size = 1 ∧ i.bytes = bytes := by
  cases hi : P.info? e with
  | none => rw [hi] at hinfo; simp at hinfo
  | some i => rw [hi] at hinfo; simp at hinfo; exact ⟨i, rfl, hinfo.1, hinfo.2.1, hinfo.2.2⟩
 obtain ⟨w', hrun, hown, hg⟩ := run_make_own W base t e i z 1 ht hi hz0 hz1 .i64 .i64 n (by rw [hz2]; exact hn) (by unfold maxLen; exact hm) hb
 refine Kd.event_run (v := .slice (some ⟨W.heap.size, 0, none⟩) 0 n) (w1 := w') hgd ?_ (h _ _ ?_ ?_)
 ·simp only [execOp, ho, hx, hy]
  rw [Sem.run_bind, hrun]
  rfl
 ·exact Kd.R_of_own (xs := []) hown (fun _ _ => trivial)
 exact ⟨hg.os, hg.tape, hg.output, hg.size, fun i hi => hg.block i hi (by simp)⟩
end
theorem Rreads {w : World} {base : Nat} {ok : Nat → Prop} {k : IntKind} {e : Nat} {v : Value} {xs : List Int} (h : (Kd.int k).R e w base ok v xs) : ∃ A c, v = .slice A xs.length c ∧ xs.length ≤ c ∧ (Kd.int k).C w A xs.length xs := Kd.R_reads h
def onesT (l : List S73) (col : List Int) (k : Nat) : List Int := (List.range k).map fun (i : Nat) => (oneV l (i : Int) col).2
theorem onesT_succ (l : List S73) (col : List Int) (k : Nat) : onesT l col (k + 1) = onesT l col k ++ [(oneV l (k : Int) col).2] := by
 unfold onesT
 rw [List.range_succ, List.map_append]
 rfl
theorem onesT_length (l : List S73) (col : List Int) (k : Nat) : (onesT l col k).length = k := by simp [onesT]
def allR (l : List S73) (col : List Int) (op : Int) : Nat → Bool × Int
 | 0 => foldV op (onesT l col l.length)
 | d + 1 => if (oneV l ((l.length - (d + 1) : Nat) : Int) col).1 = true then allR l col op d else oneV l ((l.length - (d + 1) : Nat) : Int) col
def allV (l : List S73) (col : List Int) (op : Int) : Bool × Int := allR l col op l.length
theorem allR_at (l : List S73) (col : List Int) (op : Int) (k : Nat) (h : k < l.length) : allR l col op (l.length - k) = if (oneV l (k : Int) col).1 = true then allR l col op (l.length - (k + 1)) else oneV l (k : Int) col := by
 obtain ⟨d, hd⟩ : ∃ d, l.length - k = d + 1 := ⟨l.length - k - 1, by omega⟩
 rw [hd, allR, show l.length - (d + 1) = k by omega, show l.length - (k + 1) = d by omega]
set_option maxHeartbeats 1000000 in
set_option maxRecDepth 100000 in
theorem code_all (A : Option Addr) (c : Nat) (l : List S73) (B : Option Addr) (c2 : Nat) (col : List Int) (op : Int) (w : World) (G : Glob w) (hr : Kd.C k73 w A l.length l) (hcol : Kd.C (Kd.int .i64) w B col.length col) (hl : l.length ≤ 2147483647) :
  Calls Tryd.prog 33 #[.slice A l.length c, .slice B col.length c2, .int .i64 op] w fun e w' => e = .returned (.agg #[.bool (allV l col op).1, .int .i64 (allV l col op).2]) ∧ Below w.heap.size w w' := by
 have HG := am G
 have HR := am hr
 have HC := am hcol
 clear hr hcol G
 go_enter Tryd.func33, Tryd.ntmps33
 go_wp2_with (first | ((with_reducible refine gate_dst (N := 6) rfl ?_); refine box_event ?hg (N := 6) ?hd (cs := #[.bool false, .int .i64 0]) (t := 50) ?hr ?_; (case hd => rfl); (case hg => rfl); (case hr => first | (go_simp; done) | (go_simp; rfl)); intro gb hgb w2 hbox hb; have HB := am hb; have BK := am hbox; have GE := am (Nat.le_of_eq hgb.symm); clear hb hbox hgb) | ((with_reducible refine gate_dst (N := 12) rfl ?_); refine make0_event (enc := Value.int .i64) (h1 := fun _ => rfl) w.heap.size rfl 112 2 (.int .i64 0) 8 _ _ rfl Tryd.underlying112 info2 l.length rfl rfl (by omega) (by omega) (below_size HB.out) ?_; intro v0 w3 ho hb; have HO := am ho; have HB2 := am (below_step HB.out hb); have BK2 := am (blk_below BK.out hb); clear hb ho HB BK))
 go_loopw [15, 7] (fun i v w' => ∃ k : Nat, k ≤ l.length ∧ i = .int .i64 k ∧ Aside0 (allV l col op = allR l col op (l.length - k)) ∧ Aside0 ((Kd.int .i64).R 2 w' w.heap.size (fun _ => True) v (onesT l col k)) ∧ Aside0 (Below w.heap.size w w') ∧ Aside0 (w'.heap[gb]? = some (.cells #[.bool false, .int .i64 0] 50 (0, 0)))) (fun i _ _ => l.length - (intOf i).toNat)
 case atStart => exact ⟨0, Nat.zero_le _, rfl, ⟨by simp [allV]⟩, HO, HB2, BK2⟩
 case round =>
  obtain ⟨k, hk, rfl, HV, HOr, HBr, BKr⟩ := hrel
  clear HO HB2 BK2
  by_cases hlt : k < l.length
  ·have HA := am (HV.out.trans (allR_at l col op k hlt))
   cases hkn : (oneV l (k : Int) col).1
   ·go_wp2_with (first | (go_at_call 32; refine (code_one _ _ _ _ _ _ _ _ (Kd.C_below HR.out HBr.out) (Kd.C_below HC.out HBr.out)).mono ?_; rintro e w1 ⟨rfl, hb⟩; have HB1 := am (below_step HBr.out hb); have BK1 := am (blk_below BKr.out hb); have HO1 := am (Kd.R_below HOr.out hb); clear hb) | ((with_reducible refine gate_dst (N := 9) rfl ?_); refine box_event ?hg (N := 9) ?hd (cs := #[.bool false, .int .i64 0]) (t := 50) ?hr ?_; (case hd => rfl); (case hg => rfl); (case hr => first | (go_simp; done) | (go_simp; rfl)); intro g9 hg9 w4 hbox hb; have HB4 := am (below_step HB1.out hb); have BK4 := am (blk_below BK1.out hb); have HO4 := am (Kd.R_below HO1.out hb); have B9 := am hbox; have G9 := am (show w.heap.size ≤ g9 from hg9 ▸ below_size HB1.out); have NE := (show ¬ gb = g9 from fun h => by have := blk_lt BK1.out; omega); have NE' := (show ¬ g9 = gb from fun h => NE h.symm); have c90 : w4.cell? ⟨g9, 0, none⟩ = some (.bool false) := (blk_cell hbox 0).trans rfl; have c91 : w4.cell? ⟨g9, 1, none⟩ = some (.int .i64 0) := (blk_cell hbox 1).trans rfl; have f90 := blk_frozen hbox 0; have f91 := blk_frozen hbox 1; have c0 : w4.cell? ⟨gb, 0, none⟩ = some (.bool false) := (blk_cell BK4.out 0).trans rfl; have c1 : w4.cell? ⟨gb, 1, none⟩ = some (.int .i64 0) := (blk_cell BK4.out 1).trans rfl; have f0 := blk_frozen BK4.out 0; have f1 := blk_frozen BK4.out 1; clear hb hbox hg9))
    refine bodyPost_ret (v := .agg #[.bool false, .int .i64 (oneV l (k : Int) col).2]) (by simp [results, Tryd.results33, go_sem, *]) rfl ⟨by rw [HA.out, if_neg (by rw [hkn]; simp), hkn], ?_⟩
    exact below_set (below_set (below_set (below_set HB4.out G9.out) G9.out) GE.out) GE.out
   go_wp2_with (first | (go_at_call 32; refine (code_one _ _ _ _ _ _ _ _ (Kd.C_below HR.out HBr.out) (Kd.C_below HC.out HBr.out)).mono ?_; rintro e w1 ⟨rfl, hb⟩; have HB1 := am (below_step HBr.out hb); have BK1 := am (blk_below BKr.out hb); have HO1 := am (Kd.R_below HOr.out hb); clear hb) | ((with_reducible refine gate_dst (N := 9) rfl ?_); refine box_event ?hg (N := 9) ?hd (cs := #[.bool false, .int .i64 0]) (t := 50) ?hr ?_; (case hd => rfl); (case hg => rfl); (case hr => first | (go_simp; done) | (go_simp; rfl)); intro g9 hg9 w4 hbox hb; have HB4 := am (below_step HB1.out hb); have BK4 := am (blk_below BK1.out hb); have HO4 := am (Kd.R_below HO1.out hb); have B9 := am hbox; have G9 := am (show w.heap.size ≤ g9 from hg9 ▸ below_size HB1.out); have NE := (show ¬ gb = g9 from fun h => by have := blk_lt BK1.out; omega); have NE' := (show ¬ g9 = gb from fun h => NE h.symm); have c90 : w4.cell? ⟨g9, 0, none⟩ = some (.bool false) := (blk_cell hbox 0).trans rfl; have c91 : w4.cell? ⟨g9, 1, none⟩ = some (.int .i64 0) := (blk_cell hbox 1).trans rfl; have f90 := blk_frozen hbox 0; have f91 := blk_frozen hbox 1; have c0 : w4.cell? ⟨gb, 0, none⟩ = some (.bool false) := (blk_cell BK4.out 0).trans rfl; have c1 : w4.cell? ⟨gb, 1, none⟩ = some (.int .i64 0) := (blk_cell BK4.out 1).trans rfl; have f0 := blk_frozen BK4.out 0; have f1 := blk_frozen BK4.out 1; clear hb hbox hg9) | ((with_reducible refine gate_builtin (b := .append) (xs := #[.tmp 26, .tmp 29]) rfl ?_); at_builtin; refine Kd.R_append (Kd.int .i64) (w0 := w) w.heap.size rfl (.tmp 26) (.tmp 29) 112 2 (.int .i64 0) 8 rfl Tryd.underlying112 info2 rfl (by decide) (by omega) u7 (onesT l col k) ((oneV l (k : Int) col).2) [.int .i64 (oneV l (k : Int) col).2] (fun _ => True) (fun _ => False) rfl ?aX ?aP (fun _ hk => hk.elim) ?aF ?aO ?aB ?aS ?aL ?_; (case aX => show Value.slice (some ⟨w4.heap.size, 0, none⟩) 1 1 = _; simp); (case aP => exact rfl); (case aB => exact below_set (below_set HB4.out G9.out) G9.out); (case aF => exact (fun _ _ => trivial)); (case aO => exact Kd.R_mono (Kd.R_far (p := ⟨g9, 1, none⟩) (Kd.R_far (p := ⟨g9, 0, none⟩) (Kd.R_types HO4.out B9.out (by decide)) (fun _ hk => hk.2) _) (fun _ hk => hk.2) _) (fun _ _ => trivial)); (case aS => exact below_size (below_set (below_set HB4.out G9.out) G9.out)); (case aL => rw [onesT_length]; omega); intro v5 w5 ho hb hg hat; have HB5 := am hb; have HO5 := am ho; have BK5 := am (blk_grown (blk_far (blk_far BK4.out NE _) NE _) hg (Kd.R_ne HO4.out BK4.out (by decide))); clear ho hb hg hat))
   go_roundw
   case rel => exact ⟨k + 1, by omega, by go_num, ⟨by rw [HA.out, if_pos hkn]⟩, ⟨by rw [onesT_succ]; exact HO5.out⟩, HB5, BK5⟩
   case measure => simp [intOf]; omega
  have hkk : k = l.length := by omega
  have HE := am (show allV l col op = foldV op (onesT l col k) from by rw [HV.out, hkk, Nat.sub_self]; rfl)
  clear hkk
  obtain ⟨A', c', rfl, hc', hX⟩ := Rreads HOr.out
  have HX := am hX
  clear hX
  go_wp2_with (go_at_call 50; refine (num_Fold _ _ _ _ _ (HG.out.below HBr.out) HX.out (by rw [onesT_length]; omega)).mono ?_; rintro e w1 ⟨rfl, hb⟩; have HB1 := am (below_step HBr.out hb); have BK1 := am (blk_below BKr.out hb); have c0 : w1.cell? ⟨gb, 0, none⟩ = some (.bool false) := (blk_cell BK1.out 0).trans rfl; have c1 : w1.cell? ⟨gb, 1, none⟩ = some (.int .i64 0) := (blk_cell BK1.out 1).trans rfl; have f0 := blk_frozen BK1.out 0; have f1 := blk_frozen BK1.out 1; clear hb)
  refine bodyPost_ret (v := .agg #[.bool (foldV op (onesT l col k)).1, .int .i64 (foldV op (onesT l col k)).2]) (by simp [results, Tryd.results33, go_sem, *]) rfl ⟨by rw [HE.out], ?_⟩
  exact below_set (below_set HB1.out GE.out) GE.out
end Go.Proofs.YtbhpjpeknooppaaDoor.M
namespace Go.Proofs.YtbhpjpeknooppaaDoor.M
open Go.RowKit Go.Proofs.YtbhpjpeknooppaaDoorW.PrintWords Go.Proofs.YtbhpjpeknooppaaDoorW.PrintLast Go.Proofs.YtbhpjpeknooppaaDoorW.PrintMore
open Go.Proofs.YtbhpjpeknooppaaDoor.PCodeSpares
set_option linter.unusedVariables false
set_option linter.unusedSimpArgs false
theorem listV_le {L : List (List S73)} {n : Nat} (h : ∀ l ∈ L, l.length ≤ n) (i : Int) : (listV L i).length ≤ n := by
 unfold listV
 split
 ·exact Nat.zero_le _
 rename_i hh
 have hlt : i.toNat < L.length := by omega
 have e : rd_L73 L i = L[i.toNat] := by simp [rd_L73, List.getD_eq_getElem?_getD, hlt]
 rw [e]
 exact h _ (List.getElem_mem hlt)
def thrV (i : S47) (each : Int) : Bool := i.f1 == each && decide (0 ≤ i.f1)
def mentionV (i : S47) (col : List Int) (L : List (List S73)) (each at_ : Int) : Bool × Int :=
 if i.f0 = 4 then (true, ((listV L i.f1).length : Int)) else if i.f0 = 3 then (if thrV i each = true ∧ ¬ at_ < 1 then oneV (listV L i.f1) (at_ - 1) col else (false, 0))
 else if i.f0 = 2 then (if thrV i each = true then oneV (listV L i.f1) at_ col else oneV (listV L i.f1) 0 col) else allV (listV L i.f1) col (wrap64 (6 + wrap64 (i.f0 - 5)))
set_option maxHeartbeats 4000000 in
set_option maxRecDepth 100000 in
theorem code_mention (i : S47) (B : Option Addr) (c2 : Nat) (col : List Int) (A : Option Addr) (c : Nat) (L : List (List S73)) (each at_ : Int) (w : World) (G : Glob w) (hL : Kd.C (Kd.slice 73 k73) w A L.length L) (hcol : Kd.C (Kd.int .i64) w B col.length col) (hbd : ∀ l ∈ L, l.length ≤ 2147483647) (hat : -9223372036854775808 ≤ at_) (hat2 : at_ ≤ 9223372036854775807) :
  Calls Tryd.prog 21 #[.agg #[.int .i64 i.f0, .int .i64 i.f1, .int .i64 i.f2, .int .i64 i.f3, .int .i64 i.f4], .slice B col.length c2, .agg #[.slice A L.length c, .int .i64 each, .int .i64 at_]] w fun e w' => e = .returned (.agg #[.bool (mentionV i col L each at_).1, .int .i64 (mentionV i col L each at_).2]) ∧ Below w.heap.size w w' := by
 have HG := am G
 have HL := am hL
 have HC := am hcol
 have HD := am (listV_le hbd i.f1)
 have HB := am (Below.refl w.heap.size w)
 clear G hL hcol hbd
 have ht : ((i.f1 == each) = true ∧ decide (0 ≤ i.f1) = true ∧ thrV i each = true) ∨ ((i.f1 == each) = true ∧ decide (0 ≤ i.f1) = false ∧ thrV i each = false) ∨ ((i.f1 == each) = false ∧ thrV i each = false) := by
  unfold thrV
  cases (i.f1 == each) <;> cases decide (0 ≤ i.f1) <;> simp
 by_cases h4 : i.f0 = 4
 ·have e4 : (i.f0 == 4) = true := by simpa using h4
  rcases ht with ⟨t1, t2, t3⟩ | ⟨t1, t2, t3⟩ | ⟨t1, t3⟩
  all_goals
   clear t3
   have HE := am (show mentionV i col L each at_ = (true, ((listV L i.f1).length : Int)) from by rw [mentionV, if_pos h4])
   clear h4
   go_enter Tryd.func21, Tryd.ntmps21
   go_wp2_with (first | ((with_reducible refine gate_dst (N := 3) rfl ?_); refine box_event ?hg (N := 3) ?hd (cs := #[.int .i64 i.f0, .int .i64 i.f1, .int .i64 i.f2, .int .i64 i.f3, .int .i64 i.f4]) (t := 47) ?hr ?_; (case hd => rfl); (case hg => rfl); (case hr => first | (go_simp; done) | (go_simp; rfl)); intro g3 hg_ W1 hbox hb; have GE_g3 := ge1 hg_ HB; replace HB := bs HB hb; replace HL := bC HL hb; replace HC := bC HC hb; replace HG := am (Glob.below HG.out hb); have BK_g3 := am hbox; have c_g3 := cf5 BK_g3; clear hb hbox hg_) | ((with_reducible refine gate_dst (N := 5) rfl ?_); refine box_event ?hg (N := 5) ?hd (cs := #[.slice A L.length c, .int .i64 each, .int .i64 at_]) (t := 34) ?hr ?_; (case hd => rfl); (case hg => rfl); (case hr => first | (go_simp; done) | (go_simp; rfl)); intro g5 hg_ W2 hbox hb; have GE_g5 := ge1 hg_ HB; have NE_g5_g3 := ne1 hg_ BK_g3; have NE_g3_g5 := ne2 NE_g5_g3; replace HB := bs HB hb; try clear c_g3; replace BK_g3 := bb BK_g3 hb; have c_g3 := cf5 BK_g3; replace HL := bC HL hb; replace HC := bC HC hb; replace HG := am (Glob.below HG.out hb); have BK_g5 := am hbox; have c_g5 := cf3 BK_g5; clear hb hbox hg_) | ((with_reducible refine gate_dst (N := 6) rfl ?_); refine box_event ?hg (N := 6) ?hd (cs := #[.bool false, .int .i64 0]) (t := 50) ?hr ?_; (case hd => rfl); (case hg => rfl); (case hr => first | (go_simp; done) | (go_simp; rfl)); intro g6 hg_ W3 hbox hb; have GE_g6 := ge1 hg_ HB; have NE_g6_g3 := ne1 hg_ BK_g3; have NE_g3_g6 := ne2 NE_g6_g3; have NE_g6_g5 := ne1 hg_ BK_g5; have NE_g5_g6 := ne2 NE_g6_g5; replace HB := bs HB hb; try clear c_g3; replace BK_g3 := bb BK_g3 hb; have c_g3 := cf5 BK_g3; try clear c_g5; replace BK_g5 := bb BK_g5 hb; have c_g5 := cf3 BK_g5; replace HL := bC HL hb; replace HC := bC HC hb; replace HG := am (Glob.below HG.out hb); have BK_g6 := am hbox; have c_g6 := cf2 BK_g6; clear hb hbox hg_) | (go_at_call 31; refine (code_listOf _ _ _ _ _ _ _ HL.out).mono ?_; rintro e W4 ⟨Al, cl, rfl, hcl, hCl, hb⟩; replace HB := bs HB hb; try clear c_g3; replace BK_g3 := bb BK_g3 hb; have c_g3 := cf5 BK_g3; try clear c_g5; replace BK_g5 := bb BK_g5 hb; have c_g5 := cf3 BK_g5; try clear c_g6; replace BK_g6 := bb BK_g6 hb; have c_g6 := cf2 BK_g6; replace HL := bC HL hb; replace HC := bC HC hb; replace HG := am (Glob.below HG.out hb); have HX := am hCl; have HXc := am hcl; clear hCl hcl; clear hb))
   refine bodyPost_ret (v := .agg #[.bool true, .int .i64 ((listV L i.f1).length : Int)]) (by simp [results, Tryd.results21, go_sem, *]) rfl ⟨by rw [HE.out], ?_⟩
   exact below_set (below_set HB.out GE_g6.out) GE_g6.out
 have e4 : (i.f0 == 4) = false := by simpa using h4
 by_cases h3 : i.f0 = 3
 ·have e3 : (i.f0 == 3) = true := by simpa using h3
  rcases ht with ⟨t1, t2, t3⟩ | ⟨t1, t2, t3⟩ | ⟨t1, t3⟩
  ·by_cases ha : at_ < 1
   ·have ea : decide (at_ < 1) = true := by simpa using ha
    have HE := am (show mentionV i col L each at_ = (false, 0) from by rw [mentionV, if_neg h4, if_pos h3, if_neg (fun h => h.2 ha)])
    clear h4 h3 ha t3
    go_enter Tryd.func21, Tryd.ntmps21
    go_wp2_with (first | ((with_reducible refine gate_dst (N := 3) rfl ?_); refine box_event ?hg (N := 3) ?hd (cs := #[.int .i64 i.f0, .int .i64 i.f1, .int .i64 i.f2, .int .i64 i.f3, .int .i64 i.f4]) (t := 47) ?hr ?_; (case hd => rfl); (case hg => rfl); (case hr => first | (go_simp; done) | (go_simp; rfl)); intro g3 hg_ W1 hbox hb; have GE_g3 := ge1 hg_ HB; replace HB := bs HB hb; replace HL := bC HL hb; replace HC := bC HC hb; replace HG := am (Glob.below HG.out hb); have BK_g3 := am hbox; have c_g3 := cf5 BK_g3; clear hb hbox hg_) | ((with_reducible refine gate_dst (N := 5) rfl ?_); refine box_event ?hg (N := 5) ?hd (cs := #[.slice A L.length c, .int .i64 each, .int .i64 at_]) (t := 34) ?hr ?_; (case hd => rfl); (case hg => rfl); (case hr => first | (go_simp; done) | (go_simp; rfl)); intro g5 hg_ W2 hbox hb; have GE_g5 := ge1 hg_ HB; have NE_g5_g3 := ne1 hg_ BK_g3; have NE_g3_g5 := ne2 NE_g5_g3; replace HB := bs HB hb; try clear c_g3; replace BK_g3 := bb BK_g3 hb; have c_g3 := cf5 BK_g3; replace HL := bC HL hb; replace HC := bC HC hb; replace HG := am (Glob.below HG.out hb); have BK_g5 := am hbox; have c_g5 := cf3 BK_g5; clear hb hbox hg_) | ((with_reducible refine gate_dst (N := 6) rfl ?_); refine box_event ?hg (N := 6) ?hd (cs := #[.bool false, .int .i64 0]) (t := 50) ?hr ?_; (case hd => rfl); (case hg => rfl); (case hr => first | (go_simp; done) | (go_simp; rfl)); intro g6 hg_ W3 hbox hb; have GE_g6 := ge1 hg_ HB; have NE_g6_g3 := ne1 hg_ BK_g3; have NE_g3_g6 := ne2 NE_g6_g3; have NE_g6_g5 := ne1 hg_ BK_g5; have NE_g5_g6 := ne2 NE_g6_g5; replace HB := bs HB hb; try clear c_g3; replace BK_g3 := bb BK_g3 hb; have c_g3 := cf5 BK_g3; try clear c_g5; replace BK_g5 := bb BK_g5 hb; have c_g5 := cf3 BK_g5; replace HL := bC HL hb; replace HC := bC HC hb; replace HG := am (Glob.below HG.out hb); have BK_g6 := am hbox; have c_g6 := cf2 BK_g6; clear hb hbox hg_) | (go_at_call 31; refine (code_listOf _ _ _ _ _ _ _ HL.out).mono ?_; rintro e W4 ⟨Al, cl, rfl, hcl, hCl, hb⟩; replace HB := bs HB hb; try clear c_g3; replace BK_g3 := bb BK_g3 hb; have c_g3 := cf5 BK_g3; try clear c_g5; replace BK_g5 := bb BK_g5 hb; have c_g5 := cf3 BK_g5; try clear c_g6; replace BK_g6 := bb BK_g6 hb; have c_g6 := cf2 BK_g6; replace HL := bC HL hb; replace HC := bC HC hb; replace HG := am (Glob.below HG.out hb); have HX := am hCl; have HXc := am hcl; clear hCl hcl; clear hb))
    refine bodyPost_ret (v := .agg #[.bool false, .int .i64 0]) (by simp [results, Tryd.results21, go_sem, *]) rfl ⟨by rw [HE.out], ?_⟩
    exact below_set (below_set HB.out GE_g6.out) GE_g6.out
   have ea : decide (at_ < 1) = false := by simpa using ha
   have ha' : 1 ≤ at_ := by omega
   have HE := am (show mentionV i col L each at_ = oneV (listV L i.f1) (at_ - 1) col from by rw [mentionV, if_neg h4, if_pos h3, if_pos ⟨t3, ha⟩])
   clear h4 h3 ha t3
   go_enter Tryd.func21, Tryd.ntmps21
   go_wp2_with (first | ((with_reducible refine gate_dst (N := 3) rfl ?_); refine box_event ?hg (N := 3) ?hd (cs := #[.int .i64 i.f0, .int .i64 i.f1, .int .i64 i.f2, .int .i64 i.f3, .int .i64 i.f4]) (t := 47) ?hr ?_; (case hd => rfl); (case hg => rfl); (case hr => first | (go_simp; done) | (go_simp; rfl)); intro g3 hg_ W1 hbox hb; have GE_g3 := ge1 hg_ HB; replace HB := bs HB hb; replace HL := bC HL hb; replace HC := bC HC hb; replace HG := am (Glob.below HG.out hb); have BK_g3 := am hbox; have c_g3 := cf5 BK_g3; clear hb hbox hg_) | ((with_reducible refine gate_dst (N := 5) rfl ?_); refine box_event ?hg (N := 5) ?hd (cs := #[.slice A L.length c, .int .i64 each, .int .i64 at_]) (t := 34) ?hr ?_; (case hd => rfl); (case hg => rfl); (case hr => first | (go_simp; done) | (go_simp; rfl)); intro g5 hg_ W2 hbox hb; have GE_g5 := ge1 hg_ HB; have NE_g5_g3 := ne1 hg_ BK_g3; have NE_g3_g5 := ne2 NE_g5_g3; replace HB := bs HB hb; try clear c_g3; replace BK_g3 := bb BK_g3 hb; have c_g3 := cf5 BK_g3; replace HL := bC HL hb; replace HC := bC HC hb; replace HG := am (Glob.below HG.out hb); have BK_g5 := am hbox; have c_g5 := cf3 BK_g5; clear hb hbox hg_) | ((with_reducible refine gate_dst (N := 6) rfl ?_); refine box_event ?hg (N := 6) ?hd (cs := #[.bool false, .int .i64 0]) (t := 50) ?hr ?_; (case hd => rfl); (case hg => rfl); (case hr => first | (go_simp; done) | (go_simp; rfl)); intro g6 hg_ W3 hbox hb; have GE_g6 := ge1 hg_ HB; have NE_g6_g3 := ne1 hg_ BK_g3; have NE_g3_g6 := ne2 NE_g6_g3; have NE_g6_g5 := ne1 hg_ BK_g5; have NE_g5_g6 := ne2 NE_g6_g5; replace HB := bs HB hb; try clear c_g3; replace BK_g3 := bb BK_g3 hb; have c_g3 := cf5 BK_g3; try clear c_g5; replace BK_g5 := bb BK_g5 hb; have c_g5 := cf3 BK_g5; replace HL := bC HL hb; replace HC := bC HC hb; replace HG := am (Glob.below HG.out hb); have BK_g6 := am hbox; have c_g6 := cf2 BK_g6; clear hb hbox hg_) | (go_at_call 31; refine (code_listOf _ _ _ _ _ _ _ HL.out).mono ?_; rintro e W4 ⟨Al, cl, rfl, hcl, hCl, hb⟩; replace HB := bs HB hb; try clear c_g3; replace BK_g3 := bb BK_g3 hb; have c_g3 := cf5 BK_g3; try clear c_g5; replace BK_g5 := bb BK_g5 hb; have c_g5 := cf3 BK_g5; try clear c_g6; replace BK_g6 := bb BK_g6 hb; have c_g6 := cf2 BK_g6; replace HL := bC HL hb; replace HC := bC HC hb; replace HG := am (Glob.below HG.out hb); have HX := am hCl; have HXc := am hcl; clear hCl hcl; clear hb) | (go_at_call 32; refine (code_one _ _ _ _ _ _ _ _ HX.out HC.out).mono ?_; rintro e W5 ⟨rfl, hb⟩; replace HB := bs HB hb; try clear c_g3; replace BK_g3 := bb BK_g3 hb; have c_g3 := cf5 BK_g3; try clear c_g5; replace BK_g5 := bb BK_g5 hb; have c_g5 := cf3 BK_g5; try clear c_g6; replace BK_g6 := bb BK_g6 hb; have c_g6 := cf2 BK_g6; replace HL := bC HL hb; replace HC := bC HC hb; replace HG := am (Glob.below HG.out hb); replace HX := bC HX hb; clear hb))
   refine bodyPost_ret (v := .agg #[.bool (oneV (listV L i.f1) (at_ - 1) col).1, .int .i64 (oneV (listV L i.f1) (at_ - 1) col).2]) (by simp [results, Tryd.results21, go_sem, *]) rfl ⟨by rw [HE.out], ?_⟩
   exact below_set (below_set HB.out GE_g6.out) GE_g6.out
  all_goals
   have HE := am (show mentionV i col L each at_ = (false, 0) from by rw [mentionV, if_neg h4, if_pos h3, if_neg (fun h => by rw [t3] at h; exact absurd h.1 (by simp))])
   clear h4 h3 t3
   go_enter Tryd.func21, Tryd.ntmps21
   go_wp2_with (first | ((with_reducible refine gate_dst (N := 3) rfl ?_); refine box_event ?hg (N := 3) ?hd (cs := #[.int .i64 i.f0, .int .i64 i.f1, .int .i64 i.f2, .int .i64 i.f3, .int .i64 i.f4]) (t := 47) ?hr ?_; (case hd => rfl); (case hg => rfl); (case hr => first | (go_simp; done) | (go_simp; rfl)); intro g3 hg_ W1 hbox hb; have GE_g3 := ge1 hg_ HB; replace HB := bs HB hb; replace HL := bC HL hb; replace HC := bC HC hb; replace HG := am (Glob.below HG.out hb); have BK_g3 := am hbox; have c_g3 := cf5 BK_g3; clear hb hbox hg_) | ((with_reducible refine gate_dst (N := 5) rfl ?_); refine box_event ?hg (N := 5) ?hd (cs := #[.slice A L.length c, .int .i64 each, .int .i64 at_]) (t := 34) ?hr ?_; (case hd => rfl); (case hg => rfl); (case hr => first | (go_simp; done) | (go_simp; rfl)); intro g5 hg_ W2 hbox hb; have GE_g5 := ge1 hg_ HB; have NE_g5_g3 := ne1 hg_ BK_g3; have NE_g3_g5 := ne2 NE_g5_g3; replace HB := bs HB hb; try clear c_g3; replace BK_g3 := bb BK_g3 hb; have c_g3 := cf5 BK_g3; replace HL := bC HL hb; replace HC := bC HC hb; replace HG := am (Glob.below HG.out hb); have BK_g5 := am hbox; have c_g5 := cf3 BK_g5; clear hb hbox hg_) | ((with_reducible refine gate_dst (N := 6) rfl ?_); refine box_event ?hg (N := 6) ?hd (cs := #[.bool false, .int .i64 0]) (t := 50) ?hr ?_; (case hd => rfl); (case hg => rfl); (case hr => first | (go_simp; done) | (go_simp; rfl)); intro g6 hg_ W3 hbox hb; have GE_g6 := ge1 hg_ HB; have NE_g6_g3 := ne1 hg_ BK_g3; have NE_g3_g6 := ne2 NE_g6_g3; have NE_g6_g5 := ne1 hg_ BK_g5; have NE_g5_g6 := ne2 NE_g6_g5; replace HB := bs HB hb; try clear c_g3; replace BK_g3 := bb BK_g3 hb; have c_g3 := cf5 BK_g3; try clear c_g5; replace BK_g5 := bb BK_g5 hb; have c_g5 := cf3 BK_g5; replace HL := bC HL hb; replace HC := bC HC hb; replace HG := am (Glob.below HG.out hb); have BK_g6 := am hbox; have c_g6 := cf2 BK_g6; clear hb hbox hg_) | (go_at_call 31; refine (code_listOf _ _ _ _ _ _ _ HL.out).mono ?_; rintro e W4 ⟨Al, cl, rfl, hcl, hCl, hb⟩; replace HB := bs HB hb; try clear c_g3; replace BK_g3 := bb BK_g3 hb; have c_g3 := cf5 BK_g3; try clear c_g5; replace BK_g5 := bb BK_g5 hb; have c_g5 := cf3 BK_g5; try clear c_g6; replace BK_g6 := bb BK_g6 hb; have c_g6 := cf2 BK_g6; replace HL := bC HL hb; replace HC := bC HC hb; replace HG := am (Glob.below HG.out hb); have HX := am hCl; have HXc := am hcl; clear hCl hcl; clear hb))
   refine bodyPost_ret (v := .agg #[.bool false, .int .i64 0]) (by simp [results, Tryd.results21, go_sem, *]) rfl ⟨by rw [HE.out], ?_⟩
   exact below_set (below_set HB.out GE_g6.out) GE_g6.out
 have e3 : (i.f0 == 3) = false := by simpa using h3
 by_cases h2 : i.f0 = 2
 ·have e2 : (i.f0 == 2) = true := by simpa using h2
  rcases ht with ⟨t1, t2, t3⟩ | ⟨t1, t2, t3⟩ | ⟨t1, t3⟩
  ·
   have HE := am (show mentionV i col L each at_ = oneV (listV L i.f1) at_ col from by rw [mentionV, if_neg h4, if_neg h3, if_pos h2, if_pos t3])
   clear h4 h3 h2 t3
   go_enter Tryd.func21, Tryd.ntmps21
   go_wp2_with (first | ((with_reducible refine gate_dst (N := 3) rfl ?_); refine box_event ?hg (N := 3) ?hd (cs := #[.int .i64 i.f0, .int .i64 i.f1, .int .i64 i.f2, .int .i64 i.f3, .int .i64 i.f4]) (t := 47) ?hr ?_; (case hd => rfl); (case hg => rfl); (case hr => first | (go_simp; done) | (go_simp; rfl)); intro g3 hg_ W1 hbox hb; have GE_g3 := ge1 hg_ HB; replace HB := bs HB hb; replace HL := bC HL hb; replace HC := bC HC hb; replace HG := am (Glob.below HG.out hb); have BK_g3 := am hbox; have c_g3 := cf5 BK_g3; clear hb hbox hg_) | ((with_reducible refine gate_dst (N := 5) rfl ?_); refine box_event ?hg (N := 5) ?hd (cs := #[.slice A L.length c, .int .i64 each, .int .i64 at_]) (t := 34) ?hr ?_; (case hd => rfl); (case hg => rfl); (case hr => first | (go_simp; done) | (go_simp; rfl)); intro g5 hg_ W2 hbox hb; have GE_g5 := ge1 hg_ HB; have NE_g5_g3 := ne1 hg_ BK_g3; have NE_g3_g5 := ne2 NE_g5_g3; replace HB := bs HB hb; try clear c_g3; replace BK_g3 := bb BK_g3 hb; have c_g3 := cf5 BK_g3; replace HL := bC HL hb; replace HC := bC HC hb; replace HG := am (Glob.below HG.out hb); have BK_g5 := am hbox; have c_g5 := cf3 BK_g5; clear hb hbox hg_) | ((with_reducible refine gate_dst (N := 6) rfl ?_); refine box_event ?hg (N := 6) ?hd (cs := #[.bool false, .int .i64 0]) (t := 50) ?hr ?_; (case hd => rfl); (case hg => rfl); (case hr => first | (go_simp; done) | (go_simp; rfl)); intro g6 hg_ W3 hbox hb; have GE_g6 := ge1 hg_ HB; have NE_g6_g3 := ne1 hg_ BK_g3; have NE_g3_g6 := ne2 NE_g6_g3; have NE_g6_g5 := ne1 hg_ BK_g5; have NE_g5_g6 := ne2 NE_g6_g5; replace HB := bs HB hb; try clear c_g3; replace BK_g3 := bb BK_g3 hb; have c_g3 := cf5 BK_g3; try clear c_g5; replace BK_g5 := bb BK_g5 hb; have c_g5 := cf3 BK_g5; replace HL := bC HL hb; replace HC := bC HC hb; replace HG := am (Glob.below HG.out hb); have BK_g6 := am hbox; have c_g6 := cf2 BK_g6; clear hb hbox hg_) | (go_at_call 31; refine (code_listOf _ _ _ _ _ _ _ HL.out).mono ?_; rintro e W4 ⟨Al, cl, rfl, hcl, hCl, hb⟩; replace HB := bs HB hb; try clear c_g3; replace BK_g3 := bb BK_g3 hb; have c_g3 := cf5 BK_g3; try clear c_g5; replace BK_g5 := bb BK_g5 hb; have c_g5 := cf3 BK_g5; try clear c_g6; replace BK_g6 := bb BK_g6 hb; have c_g6 := cf2 BK_g6; replace HL := bC HL hb; replace HC := bC HC hb; replace HG := am (Glob.below HG.out hb); have HX := am hCl; have HXc := am hcl; clear hCl hcl; clear hb) | (go_at_call 32; refine (code_one _ _ _ _ _ _ _ _ HX.out HC.out).mono ?_; rintro e W5 ⟨rfl, hb⟩; replace HB := bs HB hb; try clear c_g3; replace BK_g3 := bb BK_g3 hb; have c_g3 := cf5 BK_g3; try clear c_g5; replace BK_g5 := bb BK_g5 hb; have c_g5 := cf3 BK_g5; try clear c_g6; replace BK_g6 := bb BK_g6 hb; have c_g6 := cf2 BK_g6; replace HL := bC HL hb; replace HC := bC HC hb; replace HG := am (Glob.below HG.out hb); replace HX := bC HX hb; clear hb))
   refine bodyPost_ret (v := .agg #[.bool (oneV (listV L i.f1) at_ col).1, .int .i64 (oneV (listV L i.f1) at_ col).2]) (by simp [results, Tryd.results21, go_sem, *]) rfl ⟨by rw [HE.out], ?_⟩
   exact below_set (below_set HB.out GE_g6.out) GE_g6.out
  all_goals
   have HE := am (show mentionV i col L each at_ = oneV (listV L i.f1) 0 col from by rw [mentionV, if_neg h4, if_neg h3, if_pos h2, if_neg (by rw [t3]; simp)])
   clear h4 h3 h2 t3
   go_enter Tryd.func21, Tryd.ntmps21
   go_wp2_with (first | ((with_reducible refine gate_dst (N := 3) rfl ?_); refine box_event ?hg (N := 3) ?hd (cs := #[.int .i64 i.f0, .int .i64 i.f1, .int .i64 i.f2, .int .i64 i.f3, .int .i64 i.f4]) (t := 47) ?hr ?_; (case hd => rfl); (case hg => rfl); (case hr => first | (go_simp; done) | (go_simp; rfl)); intro g3 hg_ W1 hbox hb; have GE_g3 := ge1 hg_ HB; replace HB := bs HB hb; replace HL := bC HL hb; replace HC := bC HC hb; replace HG := am (Glob.below HG.out hb); have BK_g3 := am hbox; have c_g3 := cf5 BK_g3; clear hb hbox hg_) | ((with_reducible refine gate_dst (N := 5) rfl ?_); refine box_event ?hg (N := 5) ?hd (cs := #[.slice A L.length c, .int .i64 each, .int .i64 at_]) (t := 34) ?hr ?_; (case hd => rfl); (case hg => rfl); (case hr => first | (go_simp; done) | (go_simp; rfl)); intro g5 hg_ W2 hbox hb; have GE_g5 := ge1 hg_ HB; have NE_g5_g3 := ne1 hg_ BK_g3; have NE_g3_g5 := ne2 NE_g5_g3; replace HB := bs HB hb; try clear c_g3; replace BK_g3 := bb BK_g3 hb; have c_g3 := cf5 BK_g3; replace HL := bC HL hb; replace HC := bC HC hb; replace HG := am (Glob.below HG.out hb); have BK_g5 := am hbox; have c_g5 := cf3 BK_g5; clear hb hbox hg_) | ((with_reducible refine gate_dst (N := 6) rfl ?_); refine box_event ?hg (N := 6) ?hd (cs := #[.bool false, .int .i64 0]) (t := 50) ?hr ?_; (case hd => rfl); (case hg => rfl); (case hr => first | (go_simp; done) | (go_simp; rfl)); intro g6 hg_ W3 hbox hb; have GE_g6 := ge1 hg_ HB; have NE_g6_g3 := ne1 hg_ BK_g3; have NE_g3_g6 := ne2 NE_g6_g3; have NE_g6_g5 := ne1 hg_ BK_g5; have NE_g5_g6 := ne2 NE_g6_g5; replace HB := bs HB hb; try clear c_g3; replace BK_g3 := bb BK_g3 hb; have c_g3 := cf5 BK_g3; try clear c_g5; replace BK_g5 := bb BK_g5 hb; have c_g5 := cf3 BK_g5; replace HL := bC HL hb; replace HC := bC HC hb; replace HG := am (Glob.below HG.out hb); have BK_g6 := am hbox; have c_g6 := cf2 BK_g6; clear hb hbox hg_) | (go_at_call 31; refine (code_listOf _ _ _ _ _ _ _ HL.out).mono ?_; rintro e W4 ⟨Al, cl, rfl, hcl, hCl, hb⟩; replace HB := bs HB hb; try clear c_g3; replace BK_g3 := bb BK_g3 hb; have c_g3 := cf5 BK_g3; try clear c_g5; replace BK_g5 := bb BK_g5 hb; have c_g5 := cf3 BK_g5; try clear c_g6; replace BK_g6 := bb BK_g6 hb; have c_g6 := cf2 BK_g6; replace HL := bC HL hb; replace HC := bC HC hb; replace HG := am (Glob.below HG.out hb); have HX := am hCl; have HXc := am hcl; clear hCl hcl; clear hb) | (go_at_call 32; refine (code_one _ _ _ _ _ _ _ _ HX.out HC.out).mono ?_; rintro e W5 ⟨rfl, hb⟩; replace HB := bs HB hb; try clear c_g3; replace BK_g3 := bb BK_g3 hb; have c_g3 := cf5 BK_g3; try clear c_g5; replace BK_g5 := bb BK_g5 hb; have c_g5 := cf3 BK_g5; try clear c_g6; replace BK_g6 := bb BK_g6 hb; have c_g6 := cf2 BK_g6; replace HL := bC HL hb; replace HC := bC HC hb; replace HG := am (Glob.below HG.out hb); replace HX := bC HX hb; clear hb))
   refine bodyPost_ret (v := .agg #[.bool (oneV (listV L i.f1) 0 col).1, .int .i64 (oneV (listV L i.f1) 0 col).2]) (by simp [results, Tryd.results21, go_sem, *]) rfl ⟨by rw [HE.out], ?_⟩
   exact below_set (below_set HB.out GE_g6.out) GE_g6.out
 have e2 : (i.f0 == 2) = false := by simpa using h2
 rcases ht with ⟨t1, t2, t3⟩ | ⟨t1, t2, t3⟩ | ⟨t1, t3⟩
 all_goals
  have HE := am (show mentionV i col L each at_ = allV (listV L i.f1) col (wrap64 (6 + wrap64 (i.f0 - 5))) from by rw [mentionV, if_neg h4, if_neg h3, if_neg h2])
  clear h4 h3 h2 t3
  go_enter Tryd.func21, Tryd.ntmps21
  go_wp2_with (first | ((with_reducible refine gate_dst (N := 3) rfl ?_); refine box_event ?hg (N := 3) ?hd (cs := #[.int .i64 i.f0, .int .i64 i.f1, .int .i64 i.f2, .int .i64 i.f3, .int .i64 i.f4]) (t := 47) ?hr ?_; (case hd => rfl); (case hg => rfl); (case hr => first | (go_simp; done) | (go_simp; rfl)); intro g3 hg_ W1 hbox hb; have GE_g3 := ge1 hg_ HB; replace HB := bs HB hb; replace HL := bC HL hb; replace HC := bC HC hb; replace HG := am (Glob.below HG.out hb); have BK_g3 := am hbox; have c_g3 := cf5 BK_g3; clear hb hbox hg_) | ((with_reducible refine gate_dst (N := 5) rfl ?_); refine box_event ?hg (N := 5) ?hd (cs := #[.slice A L.length c, .int .i64 each, .int .i64 at_]) (t := 34) ?hr ?_; (case hd => rfl); (case hg => rfl); (case hr => first | (go_simp; done) | (go_simp; rfl)); intro g5 hg_ W2 hbox hb; have GE_g5 := ge1 hg_ HB; have NE_g5_g3 := ne1 hg_ BK_g3; have NE_g3_g5 := ne2 NE_g5_g3; replace HB := bs HB hb; try clear c_g3; replace BK_g3 := bb BK_g3 hb; have c_g3 := cf5 BK_g3; replace HL := bC HL hb; replace HC := bC HC hb; replace HG := am (Glob.below HG.out hb); have BK_g5 := am hbox; have c_g5 := cf3 BK_g5; clear hb hbox hg_) | ((with_reducible refine gate_dst (N := 6) rfl ?_); refine box_event ?hg (N := 6) ?hd (cs := #[.bool false, .int .i64 0]) (t := 50) ?hr ?_; (case hd => rfl); (case hg => rfl); (case hr => first | (go_simp; done) | (go_simp; rfl)); intro g6 hg_ W3 hbox hb; have GE_g6 := ge1 hg_ HB; have NE_g6_g3 := ne1 hg_ BK_g3; have NE_g3_g6 := ne2 NE_g6_g3; have NE_g6_g5 := ne1 hg_ BK_g5; have NE_g5_g6 := ne2 NE_g6_g5; replace HB := bs HB hb; try clear c_g3; replace BK_g3 := bb BK_g3 hb; have c_g3 := cf5 BK_g3; try clear c_g5; replace BK_g5 := bb BK_g5 hb; have c_g5 := cf3 BK_g5; replace HL := bC HL hb; replace HC := bC HC hb; replace HG := am (Glob.below HG.out hb); have BK_g6 := am hbox; have c_g6 := cf2 BK_g6; clear hb hbox hg_) | (go_at_call 31; refine (code_listOf _ _ _ _ _ _ _ HL.out).mono ?_; rintro e W4 ⟨Al, cl, rfl, hcl, hCl, hb⟩; replace HB := bs HB hb; try clear c_g3; replace BK_g3 := bb BK_g3 hb; have c_g3 := cf5 BK_g3; try clear c_g5; replace BK_g5 := bb BK_g5 hb; have c_g5 := cf3 BK_g5; try clear c_g6; replace BK_g6 := bb BK_g6 hb; have c_g6 := cf2 BK_g6; replace HL := bC HL hb; replace HC := bC HC hb; replace HG := am (Glob.below HG.out hb); have HX := am hCl; have HXc := am hcl; clear hCl hcl; clear hb) | (go_at_call 33; refine (code_all _ _ _ _ _ _ _ _ HG.out HX.out HC.out HD.out).mono ?_; rintro e W5 ⟨rfl, hb⟩; replace HB := bs HB hb; try clear c_g3; replace BK_g3 := bb BK_g3 hb; have c_g3 := cf5 BK_g3; try clear c_g5; replace BK_g5 := bb BK_g5 hb; have c_g5 := cf3 BK_g5; try clear c_g6; replace BK_g6 := bb BK_g6 hb; have c_g6 := cf2 BK_g6; replace HL := bC HL hb; replace HC := bC HC hb; replace HG := am (Glob.below HG.out hb); replace HX := bC HX hb; clear hb))
  refine bodyPost_ret (v := .agg #[.bool (allV (listV L i.f1) col (wrap64 (6 + wrap64 (i.f0 - 5)))).1, .int .i64 (allV (listV L i.f1) col (wrap64 (6 + wrap64 (i.f0 - 5)))).2]) (by simp [results, Tryd.results21, go_sem, *]) rfl ⟨by rw [HE.out], ?_⟩
  exact below_set (below_set HB.out GE_g6.out) GE_g6.out
end Go.Proofs.YtbhpjpeknooppaaDoor.M
namespace Go.Proofs.YtbhpjpeknooppaaDoor.M
open Go.RowKit Go.Proofs.YtbhpjpeknooppaaDoorW.PrintWords Go.Proofs.YtbhpjpeknooppaaDoorW.PrintLast Go.Proofs.YtbhpjpeknooppaaDoorW.PrintMore
open Go.Proofs.YtbhpjpeknooppaaDoor.PCodeSpares
set_option linter.unusedVariables false
set_option linter.unusedSimpArgs false
def bey : List (List S73) → Nat → Bool
 | [], _ => false
 | l :: r, n => if 2147483647 < n + l.length then true else bey r (n + l.length)
theorem bey_le : ∀ (L : List (List S73)) (n : Nat), bey L n = false → ∀ l ∈ L, l.length ≤ 2147483647
 | [], _, _, _, h => by simp at h
 | l :: r, n, h, x, hx => by
  unfold bey at h
  split at h
  ·cases h
  rcases List.mem_cons.1 hx with rfl | hx
  ·omega
  exact bey_le r _ h x hx
theorem bey_at (L : List (List S73)) (k n : Nat) (h : k < L.length) : bey (L.drop k) n = if 2147483647 < n + (rd_L73 L (k : Int)).length then true else bey (L.drop (k + 1)) (n + (rd_L73 L (k : Int)).length) := by
 rw [List.drop_eq_getElem_cons h, bey]
 simp only [rd_L73, Int.toNat_natCast, List.getD_eq_getElem?_getD, List.getElem?_eq_getElem h, Option.getD_some]
theorem bey_end (L : List (List S73)) (k n : Nat) (h : ¬ k < L.length) : bey (L.drop k) n = false := by
 rw [List.drop_eq_nil_of_le (by omega), bey]
set_option maxHeartbeats 1000000 in
set_option maxRecDepth 100000 in
theorem ref7_Beyond (A : Option Addr) (c : Nat) (L : List (List S73)) (w : World) (hR : Kd.C (Kd.slice 73 k73) w A L.length L) (hsz : L.length ≤ 5864062014805) :
  Calls Tryd.prog 6 #[.slice A L.length c] w fun e w' => e = .returned (.bool (bey L 0)) ∧ w' = w := by
 have HR := am hR
 clear hR
 go_enter Tryd.func6, Tryd.ntmps6
 go_wp2
 go_loop [4, 3] (fun i v => ∃ k n : Nat, k ≤ L.length ∧ i = .int .i64 k ∧ v = .int .i64 n ∧ n ≤ 2147483647 ∧ Aside0 (bey L 0 = bey (L.drop k) n)) (fun i _ => L.length - (intOf i).toNat)
 case atStart => exact ⟨0, 0, by omega, rfl, rfl, by omega, ⟨rfl⟩⟩
 case round =>
  obtain ⟨k, n, hk, rfl, rfl, hn, HV⟩ := hrel
  by_cases hlt : k < L.length
  ·have HA := am (HV.out.trans (bey_at L k n hlt))
   clear HV
   obtain ⟨ad, A0, c0, rfl, hcell, hl, hC⟩ := at_L73 HR.out (k : Int) (by omega) (by omega)
   rw [Int.toNat_natCast] at hcell
   clear hl hC
   have eS : wrap64 (2147483647 - (n : Int)) = 2147483647 - (n : Int) := IntWalk.wrap64_in _ (by omega)
   by_cases hb : 2147483647 < n + (rd_L73 L (k : Int)).length
   ·have hd : decide (2147483647 - (n : Int) < ((rd_L73 L (k : Int)).length : Int)) = true := by simp; omega
    have HE := am (HA.out.trans (if_pos hb))
    go_wp2
    refine bodyPost_ret (v := .bool true) (by simp [results, Tryd.results6, go_sem, *]) rfl ⟨by rw [HE.out], rfl⟩
   have hd : decide (2147483647 - (n : Int) < ((rd_L73 L (k : Int)).length : Int)) = false := by simp; omega
   have HE := am (HA.out.trans (if_neg hb))
   have eS2 : wrap64 ((n : Int) + ((rd_L73 L (k : Int)).length : Int)) = ((n + (rd_L73 L (k : Int)).length : Nat) : Int) := by rw [Int.natCast_add]; exact IntWalk.wrap64_in _ (by omega)
   go_wp2
   go_round
   case rel => exact ⟨k + 1, n + (rd_L73 L (k : Int)).length, by omega, by go_num, by first | rfl | simp, by omega, ⟨HE.out⟩⟩
   case measure => simp [intOf]; omega
  have HE := am (HV.out.trans (bey_end L k n hlt))
  go_wp2
  refine bodyPost_ret (v := .bool false) (by simp [results, Tryd.results6, go_sem, *]) rfl ⟨by rw [HE.out], rfl⟩
end Go.Proofs.YtbhpjpeknooppaaDoor.M
