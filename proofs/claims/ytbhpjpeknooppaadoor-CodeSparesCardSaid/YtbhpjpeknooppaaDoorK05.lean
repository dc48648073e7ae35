/- The contracts of the package num. Conditions: the package variables read as laid. -/
import Derived.Test.YtbhpjpeknooppaaDoorK03
import Derived.BigQuiet
import Derived.Deep.QuietTactic
import Derived.Deep.RegionWith
import Derived.Laws.Externs
import Derived.LoopTactic
namespace Go.Proofs.YtbhpjpeknooppaaDoor.M
open Go.RowKit Go.Proofs.YtbhpjpeknooppaaDoorW.PrintWords Go.Proofs.YtbhpjpeknooppaaDoorW.PrintLast Go.Proofs.YtbhpjpeknooppaaDoorW.PrintMore
open Go.Proofs.YtbhpjpeknooppaaDoor.PCodeSpares
set_option linter.unusedVariables false
set_option linter.unusedSimpArgs false
def vcs (l : List (Bool × Int)) : List Value := l.flatMap fun x => [.bool x.1, .int .i64 x.2]
def tOther : List (Bool × Int) := [(true, 1), (false, 0), (true, 0)]
def tBoth : List (Bool × Int) := [(true, 0), (true, 0), (true, 0), (true, 0), (false, 0), (false, 0), (true, 0), (false, 0), (true, 1)]
def tEither : List (Bool × Int) := [(true, 0), (false, 0), (true, 1), (false, 0), (false, 0), (true, 1), (true, 1), (true, 1), (true, 1)]
def tOperands : List Int := [-1, 0, 0, 0, 0, 0, 0, 0, 0, 0, 1, 1, 2, 2, 2, 2, 2, 2, 2, 2, 2, 2, 2, 2, 2, 1, 1]
structure Glob (w : World) : Prop where
 size : 8 ≤ w.heap.size
 operands : ∀ i, i < 27 → w.cell? ⟨0, i, none⟩ = some (.int .i64 (tOperands.getD i 0))
 unknown : ∀ i, i < 2 → w.cell? ⟨1, i, none⟩ = (vcs [(false, 0)])[i]?
 other : ∀ i, i < 6 → w.cell? ⟨2, i, none⟩ = (vcs tOther)[i]?
 both : ∀ i, i < 18 → w.cell? ⟨3, i, none⟩ = (vcs tBoth)[i]?
 either : ∀ i, i < 18 → w.cell? ⟨4, i, none⟩ = (vcs tEither)[i]?
 yes : ∀ i, i < 2 → w.cell? ⟨5, i, none⟩ = (vcs [(true, 1)])[i]?
 no : ∀ i, i < 2 → w.cell? ⟨6, i, none⟩ = (vcs [(true, 0)])[i]?
theorem Glob.below {w w1 : World} (G : Glob w) (hb : Below w.heap.size w w1) : Glob w1 := by
 have h := G.size
 have hs := hb.size
 have hc : ∀ b i, b < 8 → w1.cell? ⟨b, i, none⟩ = w.cell? ⟨b, i, none⟩ := fun b i hb8 => hb.cell (p := ⟨b, i, none⟩) (by show b < _; omega)
 exact ⟨by omega, fun i hi => (hc 0 i (by omega)).trans (G.operands i hi), fun i hi => (hc 1 i (by omega)).trans (G.unknown i hi), fun i hi => (hc 2 i (by omega)).trans (G.other i hi), fun i hi => (hc 3 i (by omega)).trans (G.both i hi), fun i hi => (hc 4 i (by omega)).trans (G.either i hi), fun i hi => (hc 5 i (by omega)).trans (G.yes i hi), fun i hi => (hc 6 i (by omega)).trans (G.no i hi)⟩
theorem Glob.unk0 {w : World} (G : Glob w) : w.cell? ⟨1, 0, none⟩ = some (.bool false) := G.unknown 0 (by omega)
theorem Glob.unk1 {w : World} (G : Glob w) : w.cell? ⟨1, 1, none⟩ = some (.int .i64 0) := G.unknown 1 (by omega)
theorem Glob.yes0 {w : World} (G : Glob w) : w.cell? ⟨5, 0, none⟩ = some (.bool true) := G.yes 0 (by omega)
theorem Glob.yes1 {w : World} (G : Glob w) : w.cell? ⟨5, 1, none⟩ = some (.int .i64 1) := G.yes 1 (by omega)
theorem Glob.no0 {w : World} (G : Glob w) : w.cell? ⟨6, 0, none⟩ = some (.bool true) := G.no 0 (by omega)
theorem Glob.no1 {w : World} (G : Glob w) : w.cell? ⟨6, 1, none⟩ = some (.int .i64 0) := G.no 1 (by omega)
theorem bcell {W w1 : World} (hb : Below W.heap.size W w1) : (∀ b o, b < W.heap.size → w1.cell? ⟨b, o, none⟩ = W.cell? ⟨b, o, none⟩) ∧ (∀ b o, b < W.heap.size → w1.frozen? ⟨b, o, none⟩ = W.frozen? ⟨b, o, none⟩) :=
 ⟨fun b o h => hb.cell (p := ⟨b, o, none⟩) h, fun b o h => hb.frozen (p := ⟨b, o, none⟩) h⟩
def minI : Int := -9223372036854775808
def negV (k : Bool) (n : Int) : Bool × Int := if k = true ∧ n ≠ minI then (true, wrap64 (-n)) else (false, 0)
set_option maxHeartbeats 1000000 in
set_option maxRecDepth 100000 in
theorem num_Neg (a : Bool) (n : Int) (w : World) (G : Glob w) :
  Calls Tryd.prog 22 #[.agg #[.bool a, .int .i64 n]] w fun e w' => e = .returned (.agg #[.bool (negV a n).1, .int .i64 (negV a n).2]) ∧ Below w.heap.size w w' := by
 have hz := G.size
 have hg0 := G.unk0
 have hg1 := G.unk1
 have hz0 : 0 < w.heap.size := by omega
 have hz1 : 1 < w.heap.size := by omega
 clear hz
 have HG := am G
 clear G
 cases a with
 | false =>
  have HE := am (show negV false n = (false, 0) from by simp [negV])
  rw [HE.out]
  go_enter Tryd.func22, Tryd.ntmps22
  go_wp2
  refine bodyPost_ret (v := .agg #[.bool false, .int .i64 0]) (by simp [results, Tryd.results22, go_sem, *]) rfl ⟨rfl, (by repeat (first | exact Below.refl _ _ | refine below_set ?_ (by omega) | refine below_set ?_ (by simp; done) | refine below_step ?_ hb | apply below_alloc | apply pw_below_drewN | apply below_drew1))⟩
 | true =>
  by_cases hn : n = minI
  ·unfold minI at hn
   subst hn
   have HE := am (show negV true (-9223372036854775808) = (false, 0) from by rfl)
   rw [HE.out]
   go_enter Tryd.func22, Tryd.ntmps22
   go_wp2
   refine bodyPost_ret (v := .agg #[.bool false, .int .i64 0]) (by simp [results, Tryd.results22, go_sem, *]) rfl ⟨rfl, (by repeat (first | exact Below.refl _ _ | refine below_set ?_ (by omega) | refine below_set ?_ (by simp; done) | refine below_step ?_ hb | apply below_alloc | apply pw_below_drewN | apply below_drew1))⟩
  have hn1 : (n == -9223372036854775808) = false := by simpa [minI] using hn
  have HE := am (show negV true n = (true, (wrap64 (-n))) from by simp [negV, hn])
  rw [HE.out]
  clear hn
  go_enter Tryd.func22, Tryd.ntmps22
  go_wp2_with ((go_at_call 34; refine (num_known.calls _ _ _ _ rfl).mono ?_; rintro e w' ⟨rfl, hb⟩; obtain ⟨hc, hf⟩ := bcell hb))
  refine bodyPost_ret (v := .agg #[.bool true, .int .i64 (wrap64 (-n))]) (by simp [results, Tryd.results22, go_sem, *]) rfl ⟨rfl, (by repeat (first | exact Below.refl _ _ | refine below_set ?_ (by omega) | refine below_set ?_ (by simp; done) | refine below_step ?_ hb | apply below_alloc | apply pw_below_drewN | apply below_drew1))⟩
def truthV (b : Bool) : Bool × Int := if b = true then (true, 1) else (true, 0)
set_option maxHeartbeats 1000000 in
set_option maxRecDepth 100000 in
theorem num_truth (b : Bool) (w : World) (G : Glob w) :
  Calls Tryd.prog 53 #[.bool b] w fun e w' => e = .returned (.agg #[.bool (truthV b).1, .int .i64 (truthV b).2]) ∧ Below w.heap.size w w' := by
 have hz := G.size
 have hg0 := G.yes0
 have hg1 := G.yes1
 have hg2 := G.no0
 have hg3 := G.no1
 have hz0 : 0 < w.heap.size := by omega
 have hz5 : 5 < w.heap.size := by omega
 have hz6 : 6 < w.heap.size := by omega
 clear hz
 have HG := am G
 clear G
 cases b with
 | true =>
  have HE := am (show truthV true = (true, 1) from by rfl)
  rw [HE.out]
  go_enter Tryd.func53, Tryd.ntmps53
  go_wp2
  refine bodyPost_ret (v := .agg #[.bool true, .int .i64 1]) (by simp [results, Tryd.results53, go_sem, *]) rfl ⟨rfl, (by repeat (first | exact Below.refl _ _ | refine below_set ?_ (by omega) | refine below_set ?_ (by simp; done) | refine below_step ?_ hb | apply below_alloc | apply pw_below_drewN | apply below_drew1))⟩
 | false =>
  have HE := am (show truthV false = (true, 0) from by rfl)
  rw [HE.out]
  go_enter Tryd.func53, Tryd.ntmps53
  go_wp2
  refine bodyPost_ret (v := .agg #[.bool true, .int .i64 0]) (by simp [results, Tryd.results53, go_sem, *]) rfl ⟨rfl, (by repeat (first | exact Below.refl _ _ | refine below_set ?_ (by omega) | refine below_set ?_ (by simp; done) | refine below_step ?_ hb | apply below_alloc | apply pw_below_drewN | apply below_drew1))⟩
def rankV (k : Bool) (n : Int) : Int := if k = true then if n = 0 then 0 else 2 else 1
theorem num_rank_f (k : Bool) (n : Int) : num_rank.f k n = some (rankV k n) := by
 unfold num_rank.f rankV
 split
 ·split <;> rfl
 rfl
def notV (k : Bool) (n : Int) : Bool × Int := if k = true then if n = 0 then (true, 1) else (true, 0) else (false, 0)
set_option maxHeartbeats 1000000 in
set_option maxRecDepth 100000 in
theorem num_Not (a : Bool) (n : Int) (w : World) (G : Glob w) :
  Calls Tryd.prog 23 #[.agg #[.bool a, .int .i64 n]] w fun e w' => e = .returned (.agg #[.bool (notV a n).1, .int .i64 (notV a n).2]) ∧ Below w.heap.size w w' := by
 have hz := G.size
 have hg0 : w.cell? ⟨2, 0, none⟩ = some (.bool true) := G.other 0 (by omega)
 have hg1 : w.cell? ⟨2, 1, none⟩ = some (.int .i64 1) := G.other 1 (by omega)
 have hg2 : w.cell? ⟨2, 2, none⟩ = some (.bool false) := G.other 2 (by omega)
 have hg3 : w.cell? ⟨2, 3, none⟩ = some (.int .i64 0) := G.other 3 (by omega)
 have hg4 : w.cell? ⟨2, 4, none⟩ = some (.bool true) := G.other 4 (by omega)
 have hg5 : w.cell? ⟨2, 5, none⟩ = some (.int .i64 0) := G.other 5 (by omega)
 have hz0 : 0 < w.heap.size := by omega
 have hz1 : 1 < w.heap.size := by omega
 have hz2 : 2 < w.heap.size := by omega
 clear hz
 have HG := am G
 clear G
 cases a with
 | false =>
  have hr : rankV false n = 1 := rfl
  have HE := am (show notV false n = (false, 0) from by rfl)
  rw [HE.out]
  go_enter Tryd.func23, Tryd.ntmps23
  go_wp2_with ((go_at_call 35; refine (num_rank.calls _ _ _ _ (num_rank_f _ _)).mono ?_; rintro e w1 ⟨rfl, hb⟩; obtain ⟨hc, hf⟩ := bcell hb))
  refine bodyPost_ret (v := .agg #[.bool false, .int .i64 0]) (by simp [results, Tryd.results23, go_sem, *]) rfl ⟨rfl, (by repeat (first | exact Below.refl _ _ | refine below_set ?_ (by omega) | refine below_set ?_ (by simp; done) | refine below_step ?_ hb | apply below_alloc | apply pw_below_drewN | apply below_drew1))⟩
 | true =>
  by_cases hn : n = 0
  ·subst hn
   have hr : rankV true 0 = 0 := rfl
   have HE := am (show notV true 0 = (true, 1) from by rfl)
   rw [HE.out]
   go_enter Tryd.func23, Tryd.ntmps23
   go_wp2_with ((go_at_call 35; refine (num_rank.calls _ _ _ _ (num_rank_f _ _)).mono ?_; rintro e w1 ⟨rfl, hb⟩; obtain ⟨hc, hf⟩ := bcell hb))
   refine bodyPost_ret (v := .agg #[.bool true, .int .i64 1]) (by simp [results, Tryd.results23, go_sem, *]) rfl ⟨rfl, (by repeat (first | exact Below.refl _ _ | refine below_set ?_ (by omega) | refine below_set ?_ (by simp; done) | refine below_step ?_ hb | apply below_alloc | apply pw_below_drewN | apply below_drew1))⟩
  have hr : rankV true n = 2 := by simp [rankV, hn]
  have HE := am (show notV true n = (true, 0) from by simp [notV, hn])
  rw [HE.out]
  clear hn
  go_enter Tryd.func23, Tryd.ntmps23
  go_wp2_with ((go_at_call 35; refine (num_rank.calls _ _ _ _ (num_rank_f _ _)).mono ?_; rintro e w1 ⟨rfl, hb⟩; obtain ⟨hc, hf⟩ := bcell hb))
  refine bodyPost_ret (v := .agg #[.bool true, .int .i64 0]) (by simp [results, Tryd.results23, go_sem, *]) rfl ⟨rfl, (by repeat (first | exact Below.refl _ _ | refine below_set ?_ (by omega) | refine below_set ?_ (by simp; done) | refine below_step ?_ hb | apply below_alloc | apply pw_below_drewN | apply below_drew1))⟩
def addV (a : Bool) (m : Int) (b : Bool) (n : Int) : Bool × Int := if a && b then if (decide (m < wrap64 (m + n)) != decide (0 < n)) && (n != 0) then (false, 0) else (true, wrap64 (m + n)) else (false, 0)
set_option maxHeartbeats 1000000 in
set_option maxRecDepth 100000 in
theorem num_Add (a : Bool) (m : Int) (b : Bool) (n : Int) (w : World) (G : Glob w) :
  Calls Tryd.prog 36 #[.agg #[.bool a, .int .i64 m], .agg #[.bool b, .int .i64 n]] w fun e w' => e = .returned (.agg #[.bool (addV a m b n).1, .int .i64 (addV a m b n).2]) ∧ Below w.heap.size w w' := by
 have hz := G.size
 have hg0 := G.unk0
 have hg1 := G.unk1
 have hz0 : 0 < w.heap.size := by omega
 have hz1 : 1 < w.heap.size := by omega
 clear hz
 have HG := am G
 clear G
 cases a with
 | false =>
  have HE := am (show addV false m b n = (false, 0) from by rfl)
  rw [HE.out]
  go_enter Tryd.func36, Tryd.ntmps36
  go_wp2
  refine bodyPost_ret (v := .agg #[.bool false, .int .i64 0]) (by simp [results, Tryd.results36, go_sem, *]) rfl ⟨rfl, (by repeat (first | exact Below.refl _ _ | refine below_set ?_ (by omega) | refine below_set ?_ (by simp; done) | refine below_step ?_ hb | apply below_alloc | apply pw_below_drewN | apply below_drew1))⟩
 | true =>
  cases b with
  | false =>
   have HE := am (show addV true m false n = (false, 0) from by rfl)
   rw [HE.out]
   go_enter Tryd.func36, Tryd.ntmps36
   go_wp2
   refine bodyPost_ret (v := .agg #[.bool false, .int .i64 0]) (by simp [results, Tryd.results36, go_sem, *]) rfl ⟨rfl, (by repeat (first | exact Below.refl _ _ | refine below_set ?_ (by omega) | refine below_set ?_ (by simp; done) | refine below_step ?_ hb | apply below_alloc | apply pw_below_drewN | apply below_drew1))⟩
  | true =>
   by_cases h3 : n = 0
   ·subst h3
    cases h1 : decide (m < wrap64 m)
    ·have HE := am (show addV true m true 0 = (true, wrap64 m) from by simp [addV])
     rw [HE.out]
     go_enter Tryd.func36, Tryd.ntmps36
     go_wp2_with (go_at_call 34; refine (num_known.calls _ _ _ _ rfl).mono ?_; rintro e w' ⟨rfl, hb⟩; obtain ⟨hc, hf⟩ := bcell hb)
     refine bodyPost_ret (v := .agg #[.bool true, .int .i64 (wrap64 m)]) (by simp [results, Tryd.results36, go_sem, *]) rfl ⟨rfl, (by repeat (first | exact Below.refl _ _ | refine below_set ?_ (by omega) | refine below_set ?_ (by simp; done) | refine below_step ?_ hb | apply below_alloc | apply pw_below_drewN | apply below_drew1))⟩
    have HE := am (show addV true m true 0 = (true, wrap64 m) from by simp [addV])
    rw [HE.out]
    go_enter Tryd.func36, Tryd.ntmps36
    go_wp2_with (go_at_call 34; refine (num_known.calls _ _ _ _ rfl).mono ?_; rintro e w' ⟨rfl, hb⟩; obtain ⟨hc, hf⟩ := bcell hb)
    refine bodyPost_ret (v := .agg #[.bool true, .int .i64 (wrap64 m)]) (by simp [results, Tryd.results36, go_sem, *]) rfl ⟨rfl, (by repeat (first | exact Below.refl _ _ | refine below_set ?_ (by omega) | refine below_set ?_ (by simp; done) | refine below_step ?_ hb | apply below_alloc | apply pw_below_drewN | apply below_drew1))⟩
   have h4 : (n == 0) = false := by simpa using h3
   have h5 : (n != 0) = true := by simpa using h3
   clear h3
   cases h1 : decide (m < wrap64 (m + n))
   ·cases h2 : decide (0 < n)
    ·have HE := am (show addV true m true n = (true, (wrap64 (m + n))) from by simp only [addV, h1, h2, h5]; rfl)
     rw [HE.out]
     go_enter Tryd.func36, Tryd.ntmps36
     go_wp2_with (go_at_call 34; refine (num_known.calls _ _ _ _ rfl).mono ?_; rintro e w' ⟨rfl, hb⟩; obtain ⟨hc, hf⟩ := bcell hb)
     refine bodyPost_ret (v := .agg #[.bool true, .int .i64 (wrap64 (m + n))]) (by simp [results, Tryd.results36, go_sem, *]) rfl ⟨rfl, (by repeat (first | exact Below.refl _ _ | refine below_set ?_ (by omega) | refine below_set ?_ (by simp; done) | refine below_step ?_ hb | apply below_alloc | apply pw_below_drewN | apply below_drew1))⟩
    have HE := am (show addV true m true n = (false, 0) from by simp only [addV, h1, h2, h5]; rfl)
    rw [HE.out]
    go_enter Tryd.func36, Tryd.ntmps36
    go_wp2_with (go_at_call 34; refine (num_known.calls _ _ _ _ rfl).mono ?_; rintro e w' ⟨rfl, hb⟩; obtain ⟨hc, hf⟩ := bcell hb)
    refine bodyPost_ret (v := .agg #[.bool false, .int .i64 0]) (by simp [results, Tryd.results36, go_sem, *]) rfl ⟨rfl, (by repeat (first | exact Below.refl _ _ | refine below_set ?_ (by omega) | refine below_set ?_ (by simp; done) | refine below_step ?_ hb | apply below_alloc | apply pw_below_drewN | apply below_drew1))⟩
   cases h2 : decide (0 < n)
   ·have HE := am (show addV true m true n = (false, 0) from by simp only [addV, h1, h2, h5]; rfl)
    rw [HE.out]
    go_enter Tryd.func36, Tryd.ntmps36
    go_wp2_with (go_at_call 34; refine (num_known.calls _ _ _ _ rfl).mono ?_; rintro e w' ⟨rfl, hb⟩; obtain ⟨hc, hf⟩ := bcell hb)
    refine bodyPost_ret (v := .agg #[.bool false, .int .i64 0]) (by simp [results, Tryd.results36, go_sem, *]) rfl ⟨rfl, (by repeat (first | exact Below.refl _ _ | refine below_set ?_ (by omega) | refine below_set ?_ (by simp; done) | refine below_step ?_ hb | apply below_alloc | apply pw_below_drewN | apply below_drew1))⟩
   have HE := am (show addV true m true n = (true, (wrap64 (m + n))) from by simp only [addV, h1, h2, h5]; rfl)
   rw [HE.out]
   go_enter Tryd.func36, Tryd.ntmps36
   go_wp2_with (go_at_call 34; refine (num_known.calls _ _ _ _ rfl).mono ?_; rintro e w' ⟨rfl, hb⟩; obtain ⟨hc, hf⟩ := bcell hb)
   refine bodyPost_ret (v := .agg #[.bool true, .int .i64 (wrap64 (m + n))]) (by simp [results, Tryd.results36, go_sem, *]) rfl ⟨rfl, (by repeat (first | exact Below.refl _ _ | refine below_set ?_ (by omega) | refine below_set ?_ (by simp; done) | refine below_step ?_ hb | apply below_alloc | apply pw_below_drewN | apply below_drew1))⟩
def subV (a : Bool) (m : Int) (b : Bool) (n : Int) : Bool × Int := if a && b then if (decide (wrap64 (m - n) < m) != decide (0 < n)) && (n != 0) then (false, 0) else (true, wrap64 (m - n)) else (false, 0)
set_option maxHeartbeats 1000000 in
set_option maxRecDepth 100000 in
theorem num_Sub (a : Bool) (m : Int) (b : Bool) (n : Int) (w : World) (G : Glob w) :
  Calls Tryd.prog 37 #[.agg #[.bool a, .int .i64 m], .agg #[.bool b, .int .i64 n]] w fun e w' => e = .returned (.agg #[.bool (subV a m b n).1, .int .i64 (subV a m b n).2]) ∧ Below w.heap.size w w' := by
 have hz := G.size
 have hg0 := G.unk0
 have hg1 := G.unk1
 have hz0 : 0 < w.heap.size := by omega
 have hz1 : 1 < w.heap.size := by omega
 clear hz
 have HG := am G
 clear G
 cases a with
 | false =>
  have HE := am (show subV false m b n = (false, 0) from by rfl)
  rw [HE.out]
  go_enter Tryd.func37, Tryd.ntmps37
  go_wp2
  refine bodyPost_ret (v := .agg #[.bool false, .int .i64 0]) (by simp [results, Tryd.results37, go_sem, *]) rfl ⟨rfl, (by repeat (first | exact Below.refl _ _ | refine below_set ?_ (by omega) | refine below_set ?_ (by simp; done) | refine below_step ?_ hb | apply below_alloc | apply pw_below_drewN | apply below_drew1))⟩
 | true =>
  cases b with
  | false =>
   have HE := am (show subV true m false n = (false, 0) from by rfl)
   rw [HE.out]
   go_enter Tryd.func37, Tryd.ntmps37
   go_wp2
   refine bodyPost_ret (v := .agg #[.bool false, .int .i64 0]) (by simp [results, Tryd.results37, go_sem, *]) rfl ⟨rfl, (by repeat (first | exact Below.refl _ _ | refine below_set ?_ (by omega) | refine below_set ?_ (by simp; done) | refine below_step ?_ hb | apply below_alloc | apply pw_below_drewN | apply below_drew1))⟩
  | true =>
   by_cases h3 : n = 0
   ·subst h3
    cases h1 : decide (wrap64 m < m)
    ·have HE := am (show subV true m true 0 = (true, wrap64 m) from by simp [subV])
     rw [HE.out]
     go_enter Tryd.func37, Tryd.ntmps37
     go_wp2_with (go_at_call 34; refine (num_known.calls _ _ _ _ rfl).mono ?_; rintro e w' ⟨rfl, hb⟩; obtain ⟨hc, hf⟩ := bcell hb)
     refine bodyPost_ret (v := .agg #[.bool true, .int .i64 (wrap64 m)]) (by simp [results, Tryd.results37, go_sem, *]) rfl ⟨rfl, (by repeat (first | exact Below.refl _ _ | refine below_set ?_ (by omega) | refine below_set ?_ (by simp; done) | refine below_step ?_ hb | apply below_alloc | apply pw_below_drewN | apply below_drew1))⟩
    have HE := am (show subV true m true 0 = (true, wrap64 m) from by simp [subV])
    rw [HE.out]
    go_enter Tryd.func37, Tryd.ntmps37
    go_wp2_with (go_at_call 34; refine (num_known.calls _ _ _ _ rfl).mono ?_; rintro e w' ⟨rfl, hb⟩; obtain ⟨hc, hf⟩ := bcell hb)
    refine bodyPost_ret (v := .agg #[.bool true, .int .i64 (wrap64 m)]) (by simp [results, Tryd.results37, go_sem, *]) rfl ⟨rfl, (by repeat (first | exact Below.refl _ _ | refine below_set ?_ (by omega) | refine below_set ?_ (by simp; done) | refine below_step ?_ hb | apply below_alloc | apply pw_below_drewN | apply below_drew1))⟩
   have h4 : (n == 0) = false := by simpa using h3
   have h5 : (n != 0) = true := by simpa using h3
   clear h3
   cases h1 : decide (wrap64 (m - n) < m)
   ·cases h2 : decide (0 < n)
    ·have HE := am (show subV true m true n = (true, (wrap64 (m - n))) from by simp only [subV, h1, h2, h5]; rfl)
     rw [HE.out]
     go_enter Tryd.func37, Tryd.ntmps37
     go_wp2_with (go_at_call 34; refine (num_known.calls _ _ _ _ rfl).mono ?_; rintro e w' ⟨rfl, hb⟩; obtain ⟨hc, hf⟩ := bcell hb)
     refine bodyPost_ret (v := .agg #[.bool true, .int .i64 (wrap64 (m - n))]) (by simp [results, Tryd.results37, go_sem, *]) rfl ⟨rfl, (by repeat (first | exact Below.refl _ _ | refine below_set ?_ (by omega) | refine below_set ?_ (by simp; done) | refine below_step ?_ hb | apply below_alloc | apply pw_below_drewN | apply below_drew1))⟩
    have HE := am (show subV true m true n = (false, 0) from by simp only [subV, h1, h2, h5]; rfl)
    rw [HE.out]
    go_enter Tryd.func37, Tryd.ntmps37
    go_wp2_with (go_at_call 34; refine (num_known.calls _ _ _ _ rfl).mono ?_; rintro e w' ⟨rfl, hb⟩; obtain ⟨hc, hf⟩ := bcell hb)
    refine bodyPost_ret (v := .agg #[.bool false, .int .i64 0]) (by simp [results, Tryd.results37, go_sem, *]) rfl ⟨rfl, (by repeat (first | exact Below.refl _ _ | refine below_set ?_ (by omega) | refine below_set ?_ (by simp; done) | refine below_step ?_ hb | apply below_alloc | apply pw_below_drewN | apply below_drew1))⟩
   cases h2 : decide (0 < n)
   ·have HE := am (show subV true m true n = (false, 0) from by simp only [subV, h1, h2, h5]; rfl)
    rw [HE.out]
    go_enter Tryd.func37, Tryd.ntmps37
    go_wp2_with (go_at_call 34; refine (num_known.calls _ _ _ _ rfl).mono ?_; rintro e w' ⟨rfl, hb⟩; obtain ⟨hc, hf⟩ := bcell hb)
    refine bodyPost_ret (v := .agg #[.bool false, .int .i64 0]) (by simp [results, Tryd.results37, go_sem, *]) rfl ⟨rfl, (by repeat (first | exact Below.refl _ _ | refine below_set ?_ (by omega) | refine below_set ?_ (by simp; done) | refine below_step ?_ hb | apply below_alloc | apply pw_below_drewN | apply below_drew1))⟩
   have HE := am (show subV true m true n = (true, (wrap64 (m - n))) from by simp only [subV, h1, h2, h5]; rfl)
   rw [HE.out]
   go_enter Tryd.func37, Tryd.ntmps37
   go_wp2_with (go_at_call 34; refine (num_known.calls _ _ _ _ rfl).mono ?_; rintro e w' ⟨rfl, hb⟩; obtain ⟨hc, hf⟩ := bcell hb)
   refine bodyPost_ret (v := .agg #[.bool true, .int .i64 (wrap64 (m - n))]) (by simp [results, Tryd.results37, go_sem, *]) rfl ⟨rfl, (by repeat (first | exact Below.refl _ _ | refine below_set ?_ (by omega) | refine below_set ?_ (by simp; done) | refine below_step ?_ hb | apply below_alloc | apply pw_below_drewN | apply below_drew1))⟩
def divV (a : Bool) (m : Int) (b : Bool) (n : Int) : Bool × Int := if a = true ∧ b = true ∧ n ≠ 0 ∧ ¬ (m = minI ∧ n = -1) then (true, wrap64 (m.tdiv n)) else (false, 0)
set_option maxHeartbeats 1000000 in
set_option maxRecDepth 100000 in
theorem num_Div (a : Bool) (m : Int) (b : Bool) (n : Int) (w : World) (G : Glob w) :
  Calls Tryd.prog 39 #[.agg #[.bool a, .int .i64 m], .agg #[.bool b, .int .i64 n]] w fun e w' => e = .returned (.agg #[.bool (divV a m b n).1, .int .i64 (divV a m b n).2]) ∧ Below w.heap.size w w' := by
 have hz := G.size
 have hg0 := G.unk0
 have hg1 := G.unk1
 have hz0 : 0 < w.heap.size := by omega
 have hz1 : 1 < w.heap.size := by omega
 clear hz
 have HG := am G
 clear G
 cases a with
 | false =>
  have HE := am (show divV false m b n = (false, 0) from by rfl)
  rw [HE.out]
  go_enter Tryd.func39, Tryd.ntmps39
  go_wp2
  refine bodyPost_ret (v := .agg #[.bool false, .int .i64 0]) (by simp [results, Tryd.results39, go_sem, *]) rfl ⟨rfl, (by repeat (first | exact Below.refl _ _ | refine below_set ?_ (by omega) | refine below_set ?_ (by simp; done) | refine below_step ?_ hb | apply below_alloc | apply pw_below_drewN | apply below_drew1))⟩
 | true =>
  cases b with
  | false =>
   have HE := am (show divV true m false n = (false, 0) from by rfl)
   rw [HE.out]
   go_enter Tryd.func39, Tryd.ntmps39
   go_wp2
   refine bodyPost_ret (v := .agg #[.bool false, .int .i64 0]) (by simp [results, Tryd.results39, go_sem, *]) rfl ⟨rfl, (by repeat (first | exact Below.refl _ _ | refine below_set ?_ (by omega) | refine below_set ?_ (by simp; done) | refine below_step ?_ hb | apply below_alloc | apply pw_below_drewN | apply below_drew1))⟩
  | true =>
   by_cases hn : n = 0
   ·subst hn
    have HE := am (show divV true m true 0 = (false, 0) from by rfl)
    rw [HE.out]
    go_enter Tryd.func39, Tryd.ntmps39
    go_wp2
    refine bodyPost_ret (v := .agg #[.bool false, .int .i64 0]) (by simp [results, Tryd.results39, go_sem, *]) rfl ⟨rfl, (by repeat (first | exact Below.refl _ _ | refine below_set ?_ (by omega) | refine below_set ?_ (by simp; done) | refine below_step ?_ hb | apply below_alloc | apply pw_below_drewN | apply below_drew1))⟩
   have hn0 : (n == 0) = false := by simpa using hn
   by_cases hm : m = minI
   ·have hm0 : (m == -9223372036854775808) = true := by simpa [minI] using hm
    by_cases hk : n = -1
    ·have hk0 : (n == -1) = true := by simpa using hk
     have E : divV true m true n = (false, 0) := by simp [divV, hm, hk]
     clear hm hk
     have HE := am (show divV true m true n = (false, 0) from by exact E)
     rw [HE.out]
     clear E
     go_enter Tryd.func39, Tryd.ntmps39
     go_wp2
     refine bodyPost_ret (v := .agg #[.bool false, .int .i64 0]) (by simp [results, Tryd.results39, go_sem, *]) rfl ⟨rfl, (by repeat (first | exact Below.refl _ _ | refine below_set ?_ (by omega) | refine below_set ?_ (by simp; done) | refine below_step ?_ hb | apply below_alloc | apply pw_below_drewN | apply below_drew1))⟩
    have hk0 : (n == -1) = false := by simpa using hk
    have E : divV true m true n = (true, wrap64 (m.tdiv n)) := by simp [divV, hn, hk]
    clear hm hk
    have HE := am (show divV true m true n = (true, (wrap64 (m.tdiv n))) from by exact E)
    rw [HE.out]
    clear E
    go_enter Tryd.func39, Tryd.ntmps39
    go_wp2_with ((go_at_call 34; refine (num_known.calls _ _ _ _ rfl).mono ?_; rintro e w' ⟨rfl, hb⟩; obtain ⟨hc, hf⟩ := bcell hb))
    refine bodyPost_ret (v := .agg #[.bool true, .int .i64 (wrap64 (m.tdiv n))]) (by simp [results, Tryd.results39, go_sem, *]) rfl ⟨rfl, (by repeat (first | exact Below.refl _ _ | refine below_set ?_ (by omega) | refine below_set ?_ (by simp; done) | refine below_step ?_ hb | apply below_alloc | apply pw_below_drewN | apply below_drew1))⟩
   have hm0 : (m == -9223372036854775808) = false := by simpa [minI] using hm
   have E : divV true m true n = (true, wrap64 (m.tdiv n)) := by simp [divV, hn, hm]
   clear hm
   have HE := am (show divV true m true n = (true, (wrap64 (m.tdiv n))) from by exact E)
   rw [HE.out]
   clear E
   go_enter Tryd.func39, Tryd.ntmps39
   go_wp2_with ((go_at_call 34; refine (num_known.calls _ _ _ _ rfl).mono ?_; rintro e w' ⟨rfl, hb⟩; obtain ⟨hc, hf⟩ := bcell hb))
   refine bodyPost_ret (v := .agg #[.bool true, .int .i64 (wrap64 (m.tdiv n))]) (by simp [results, Tryd.results39, go_sem, *]) rfl ⟨rfl, (by repeat (first | exact Below.refl _ _ | refine below_set ?_ (by omega) | refine below_set ?_ (by simp; done) | refine below_step ?_ hb | apply below_alloc | apply pw_below_drewN | apply below_drew1))⟩
def modV (a : Bool) (m : Int) (b : Bool) (n : Int) : Bool × Int := if a = true ∧ b = true ∧ n ≠ 0 then if n = -1 then (true, 0) else (true, m.tmod n) else (false, 0)
set_option maxHeartbeats 1000000 in
set_option maxRecDepth 100000 in
theorem num_Mod (a : Bool) (m : Int) (b : Bool) (n : Int) (w : World) (G : Glob w) :
  Calls Tryd.prog 40 #[.agg #[.bool a, .int .i64 m], .agg #[.bool b, .int .i64 n]] w fun e w' => e = .returned (.agg #[.bool (modV a m b n).1, .int .i64 (modV a m b n).2]) ∧ Below w.heap.size w w' := by
 have hz := G.size
 have hg0 := G.unk0
 have hg1 := G.unk1
 have hz0 : 0 < w.heap.size := by omega
 have hz1 : 1 < w.heap.size := by omega
 clear hz
 have HG := am G
 clear G
 cases a with
 | false =>
  have HE := am (show modV false m b n = (false, 0) from by rfl)
  rw [HE.out]
  go_enter Tryd.func40, Tryd.ntmps40
  go_wp2
  refine bodyPost_ret (v := .agg #[.bool false, .int .i64 0]) (by simp [results, Tryd.results40, go_sem, *]) rfl ⟨rfl, (by repeat (first | exact Below.refl _ _ | refine below_set ?_ (by omega) | refine below_set ?_ (by simp; done) | refine below_step ?_ hb | apply below_alloc | apply pw_below_drewN | apply below_drew1))⟩
 | true =>
  cases b with
  | false =>
   have HE := am (show modV true m false n = (false, 0) from by rfl)
   rw [HE.out]
   go_enter Tryd.func40, Tryd.ntmps40
   go_wp2
   refine bodyPost_ret (v := .agg #[.bool false, .int .i64 0]) (by simp [results, Tryd.results40, go_sem, *]) rfl ⟨rfl, (by repeat (first | exact Below.refl _ _ | refine below_set ?_ (by omega) | refine below_set ?_ (by simp; done) | refine below_step ?_ hb | apply below_alloc | apply pw_below_drewN | apply below_drew1))⟩
  | true =>
   by_cases hn : n = 0
   ·subst hn
    have HE := am (show modV true m true 0 = (false, 0) from by rfl)
    rw [HE.out]
    go_enter Tryd.func40, Tryd.ntmps40
    go_wp2
    refine bodyPost_ret (v := .agg #[.bool false, .int .i64 0]) (by simp [results, Tryd.results40, go_sem, *]) rfl ⟨rfl, (by repeat (first | exact Below.refl _ _ | refine below_set ?_ (by omega) | refine below_set ?_ (by simp; done) | refine below_step ?_ hb | apply below_alloc | apply pw_below_drewN | apply below_drew1))⟩
   have hn0 : (n == 0) = false := by simpa using hn
   by_cases hk : n = -1
   ·have hk0 : (n == -1) = true := by simpa using hk
    have E : modV true m true n = (true, 0) := by simp [modV, hk]
    clear hk
    have HE := am (show modV true m true n = (true, 0) from by exact E)
    rw [HE.out]
    clear E
    go_enter Tryd.func40, Tryd.ntmps40
    go_wp2_with ((go_at_call 34; refine (num_known.calls _ _ _ _ rfl).mono ?_; rintro e w' ⟨rfl, hb⟩; obtain ⟨hc, hf⟩ := bcell hb))
    refine bodyPost_ret (v := .agg #[.bool true, .int .i64 0]) (by simp [results, Tryd.results40, go_sem, *]) rfl ⟨rfl, (by repeat (first | exact Below.refl _ _ | refine below_set ?_ (by omega) | refine below_set ?_ (by simp; done) | refine below_step ?_ hb | apply below_alloc | apply pw_below_drewN | apply below_drew1))⟩
   have hk0 : (n == -1) = false := by simpa using hk
   have E : modV true m true n = (true, m.tmod n) := by simp [modV, hn, hk]
   clear hk
   have HE := am (show modV true m true n = (true, (m.tmod n)) from by exact E)
   rw [HE.out]
   clear E
   go_enter Tryd.func40, Tryd.ntmps40
   go_wp2_with ((go_at_call 34; refine (num_known.calls _ _ _ _ rfl).mono ?_; rintro e w' ⟨rfl, hb⟩; obtain ⟨hc, hf⟩ := bcell hb))
   refine bodyPost_ret (v := .agg #[.bool true, .int .i64 (m.tmod n)]) (by simp [results, Tryd.results40, go_sem, *]) rfl ⟨rfl, (by repeat (first | exact Below.refl _ _ | refine below_set ?_ (by omega) | refine below_set ?_ (by simp; done) | refine below_step ?_ hb | apply below_alloc | apply pw_below_drewN | apply below_drew1))⟩
end Go.Proofs.YtbhpjpeknooppaaDoor.M
namespace Go.Proofs.YtbhpjpeknooppaaDoor.M
open Go.RowKit Go.Proofs.YtbhpjpeknooppaaDoorW.PrintWords Go.Proofs.YtbhpjpeknooppaaDoorW.PrintLast Go.Proofs.YtbhpjpeknooppaaDoorW.PrintMore
open Go.Proofs.YtbhpjpeknooppaaDoor.PCodeSpares
set_option linter.unusedVariables false
set_option linter.unusedSimpArgs false
theorem rank_cases (k : Bool) (n : Int) : rankV k n = 0 ∨ rankV k n = 1 ∨ rankV k n = 2 := by
 unfold rankV
 split
 ·split
  ·exact .inl rfl
  exact .inr (.inr rfl)
 exact .inr (.inl rfl)
theorem rank_nat (k : Bool) (n : Int) : ∃ r : Nat, rankV k n = r ∧ r < 3 := by
 rcases rank_cases k n with h | h | h
 ·exact ⟨0, h, by omega⟩
 ·exact ⟨1, h, by omega⟩
 exact ⟨2, h, by omega⟩
def andV (a : Bool) (m : Int) (b : Bool) (n : Int) : Bool × Int := tBoth.getD ((rankV a m).toNat * 3 + (rankV b n).toNat) (false, 0)
set_option maxHeartbeats 1000000 in
set_option maxRecDepth 100000 in
theorem num_And_s (a : Bool) (m : Int) (b : Bool) (n : Int) (w : World) (r1 r2 : Nat) (x : Bool) (y : Int) (hr : rankV a m = r1) (hr2 : rankV b n = r2) (h1 : r1 < 3) (h2 : r2 < 3) (hyy : 8 ≤ w.heap.size)
  (g0 : w.cell? ⟨3, r1 * 6 + r2 * 2, none⟩ = some (.bool x)) (g1 : w.cell? ⟨3, r1 * 6 + r2 * 2 + 1, none⟩ = some (.int .i64 y)) :
  Calls Tryd.prog 41 #[.agg #[.bool a, .int .i64 m], .agg #[.bool b, .int .i64 n]] w fun e w' => e = .returned (.agg #[.bool x, .int .i64 y]) ∧ Below w.heap.size w w' := by
 have hz0 : 0 < w.heap.size := by omega
 have hz1 : 1 < w.heap.size := by omega
 have hy0 : 3 < w.heap.size := by omega
 have hy1 : 3 < w.heap.size + 1 := by omega
 have hy2 : 3 < w.heap.size + 1 + 1 := by omega
 clear hyy
 go_enter Tryd.func41, Tryd.ntmps41
 go_wp2
 go_region_with (go_at_call 35; refine (num_rank.calls _ _ _ _ (num_rank_f _ _)).mono ?_; rintro e w1 ⟨rfl, hb⟩; obtain ⟨hc, hf⟩ := bcell hb; have hq := hb.size; (try simp at hq); have hq3 : 3 < w1.heap.size := (by omega); have hq4 : w.heap.size < w1.heap.size := (by omega); have hq5 : w.heap.size + 1 < w1.heap.size := (by omega); have hq6 : w.heap.size + 1 + 1 < w1.heap.size := (by omega); clear hq)
 all_goals (go_wp2; refine bodyPost_ret (v := .agg #[.bool x, .int .i64 y]) (by simp [results, Tryd.results41, go_sem, *]) rfl ⟨rfl, ?_⟩; (repeat (first | exact Below.refl _ _ | refine below_set ?_ (by omega) | refine below_step ?_ (by assumption) | apply below_alloc | apply pw_below_drewN | apply below_drew1)))
theorem num_And (a : Bool) (m : Int) (b : Bool) (n : Int) (w : World) (G : Glob w) :
  Calls Tryd.prog 41 #[.agg #[.bool a, .int .i64 m], .agg #[.bool b, .int .i64 n]] w fun e w' => e = .returned (.agg #[.bool (andV a m b n).1, .int .i64 (andV a m b n).2]) ∧ Below w.heap.size w w' := by
 obtain ⟨r1, hr, h1⟩ := rank_nat a m
 obtain ⟨r2, hr2, h2⟩ := rank_nat b n
 have E : andV a m b n = tBoth.getD (r1 * 3 + r2) (false, 0) := by simp [andV, hr, hr2]
 rw [E]
 obtain ⟨g0, g1⟩ : w.cell? ⟨3, r1 * 6 + r2 * 2, none⟩ = some (.bool (tBoth.getD (r1 * 3 + r2) (false, 0)).1) ∧ w.cell? ⟨3, r1 * 6 + r2 * 2 + 1, none⟩ = some (.int .i64 (tBoth.getD (r1 * 3 + r2) (false, 0)).2) := by
  obtain rfl | rfl | rfl : r1 = 0 ∨ r1 = 1 ∨ r1 = 2 := by omega
  all_goals
   obtain rfl | rfl | rfl : r2 = 0 ∨ r2 = 1 ∨ r2 = 2 := by omega
   all_goals exact ⟨G.both _ (by decide), G.both _ (by decide)⟩
 exact num_And_s a m b n w r1 r2 _ _ hr hr2 h1 h2 G.size g0 g1
def orV (a : Bool) (m : Int) (b : Bool) (n : Int) : Bool × Int := tEither.getD ((rankV a m).toNat * 3 + (rankV b n).toNat) (false, 0)
set_option maxHeartbeats 1000000 in
set_option maxRecDepth 100000 in
theorem num_Or_s (a : Bool) (m : Int) (b : Bool) (n : Int) (w : World) (r1 r2 : Nat) (x : Bool) (y : Int) (hr : rankV a m = r1) (hr2 : rankV b n = r2) (h1 : r1 < 3) (h2 : r2 < 3) (hyy : 8 ≤ w.heap.size)
  (g0 : w.cell? ⟨4, r1 * 6 + r2 * 2, none⟩ = some (.bool x)) (g1 : w.cell? ⟨4, r1 * 6 + r2 * 2 + 1, none⟩ = some (.int .i64 y)) :
  Calls Tryd.prog 42 #[.agg #[.bool a, .int .i64 m], .agg #[.bool b, .int .i64 n]] w fun e w' => e = .returned (.agg #[.bool x, .int .i64 y]) ∧ Below w.heap.size w w' := by
 have hz0 : 0 < w.heap.size := by omega
 have hz1 : 1 < w.heap.size := by omega
 have hy0 : 4 < w.heap.size := by omega
 have hy1 : 4 < w.heap.size + 1 := by omega
 have hy2 : 4 < w.heap.size + 1 + 1 := by omega
 clear hyy
 go_enter Tryd.func42, Tryd.ntmps42
 go_wp2
 go_region_with (go_at_call 35; refine (num_rank.calls _ _ _ _ (num_rank_f _ _)).mono ?_; rintro e w1 ⟨rfl, hb⟩; obtain ⟨hc, hf⟩ := bcell hb; have hq := hb.size; (try simp at hq); have hq3 : 4 < w1.heap.size := (by omega); have hq4 : w.heap.size < w1.heap.size := (by omega); have hq5 : w.heap.size + 1 < w1.heap.size := (by omega); have hq6 : w.heap.size + 1 + 1 < w1.heap.size := (by omega); clear hq)
 all_goals (go_wp2; refine bodyPost_ret (v := .agg #[.bool x, .int .i64 y]) (by simp [results, Tryd.results42, go_sem, *]) rfl ⟨rfl, ?_⟩; (repeat (first | exact Below.refl _ _ | refine below_set ?_ (by omega) | refine below_step ?_ (by assumption) | apply below_alloc | apply pw_below_drewN | apply below_drew1)))
theorem num_Or (a : Bool) (m : Int) (b : Bool) (n : Int) (w : World) (G : Glob w) :
  Calls Tryd.prog 42 #[.agg #[.bool a, .int .i64 m], .agg #[.bool b, .int .i64 n]] w fun e w' => e = .returned (.agg #[.bool (orV a m b n).1, .int .i64 (orV a m b n).2]) ∧ Below w.heap.size w w' := by
 obtain ⟨r1, hr, h1⟩ := rank_nat a m
 obtain ⟨r2, hr2, h2⟩ := rank_nat b n
 have E : orV a m b n = tEither.getD (r1 * 3 + r2) (false, 0) := by simp [orV, hr, hr2]
 rw [E]
 obtain ⟨g0, g1⟩ : w.cell? ⟨4, r1 * 6 + r2 * 2, none⟩ = some (.bool (tEither.getD (r1 * 3 + r2) (false, 0)).1) ∧ w.cell? ⟨4, r1 * 6 + r2 * 2 + 1, none⟩ = some (.int .i64 (tEither.getD (r1 * 3 + r2) (false, 0)).2) := by
  obtain rfl | rfl | rfl : r1 = 0 ∨ r1 = 1 ∨ r1 = 2 := by omega
  all_goals
   obtain rfl | rfl | rfl : r2 = 0 ∨ r2 = 1 ∨ r2 = 2 := by omega
   all_goals exact ⟨G.either _ (by decide), G.either _ (by decide)⟩
 exact num_Or_s a m b n w r1 r2 _ _ hr hr2 h1 h2 G.size g0 g1
end Go.Proofs.YtbhpjpeknooppaaDoor.M
namespace Go.Proofs.YtbhpjpeknooppaaDoor.M
open Go.RowKit Go.Proofs.YtbhpjpeknooppaaDoorW.PrintWords Go.Proofs.YtbhpjpeknooppaaDoorW.PrintLast Go.Proofs.YtbhpjpeknooppaaDoorW.PrintMore
open Go.Proofs.YtbhpjpeknooppaaDoor.PCodeSpares
set_option linter.unusedVariables false
set_option linter.unusedSimpArgs false
def cmpV (op : Int) (a : Bool) (m : Int) (b : Bool) (n : Int) : Bool × Int := if a && b then if op = 19 then truthV (m == n) else if op = 20 then truthV (m != n) else if op = 21 then truthV (decide (m < n)) else if op = 22 then truthV (decide (m ≤ n)) else if op = 23 then truthV (decide (n < m)) else if op = 24 then truthV (decide (n ≤ m)) else (false, 0) else (false, 0)
set_option maxHeartbeats 1000000 in
set_option maxRecDepth 100000 in
theorem num_Compare (op : Int) (a : Bool) (m : Int) (b : Bool) (n : Int) (w : World) (G : Glob w) :
  Calls Tryd.prog 43 #[.int .i64 op, .agg #[.bool a, .int .i64 m], .agg #[.bool b, .int .i64 n]] w fun e w' => e = .returned (.agg #[.bool (cmpV op a m b n).1, .int .i64 (cmpV op a m b n).2]) ∧ Below w.heap.size w w' := by
 have hz := G.size
 have hg0 := G.unk0
 have hg1 := G.unk1
 have hz0 : 0 < w.heap.size := by omega
 have hz1 : 1 < w.heap.size := by omega
 clear hz
 have HG := am G
 clear G
 cases a with
 | false =>
  have HE := am (show cmpV op false m b n = (false, 0) from by rfl)
  rw [HE.out]
  go_enter Tryd.func43, Tryd.ntmps43
  go_wp2
  refine bodyPost_ret (v := .agg #[.bool false, .int .i64 0]) (by simp [results, Tryd.results43, go_sem, *]) rfl ⟨rfl, (by repeat (first | exact Below.refl _ _ | refine below_set ?_ (by omega) | refine below_set ?_ (by simp; done) | refine below_step ?_ hb | apply below_alloc | apply pw_below_drewN | apply below_drew1))⟩
 | true =>
  cases b with
  | false =>
   have HE := am (show cmpV op true m false n = (false, 0) from by rfl)
   rw [HE.out]
   go_enter Tryd.func43, Tryd.ntmps43
   go_wp2
   refine bodyPost_ret (v := .agg #[.bool false, .int .i64 0]) (by simp [results, Tryd.results43, go_sem, *]) rfl ⟨rfl, (by repeat (first | exact Below.refl _ _ | refine below_set ?_ (by omega) | refine below_set ?_ (by simp; done) | refine below_step ?_ hb | apply below_alloc | apply pw_below_drewN | apply below_drew1))⟩
  | true =>
   by_cases h19 : op = 19
   ·subst h19
    have E : cmpV 19 true m true n = truthV (m == n) := rfl
    have HE := am E
    rw [E]
    clear E
    go_enter Tryd.func43, Tryd.ntmps43
    go_wp2_with (go_at_call 53; refine (num_truth _ _ (HG.out.below (by repeat (first | exact Below.refl _ _ | apply below_alloc | apply pw_below_drewN | apply below_drew1)))).mono ?_; rintro e w' ⟨rfl, hb⟩; obtain ⟨hc, hf⟩ := bcell hb)
    refine bodyPost_ret (v := .agg #[.bool (truthV (m == n)).1, .int .i64 (truthV (m == n)).2]) (by simp [results, Tryd.results43, go_sem, *]) rfl ⟨rfl, (by repeat (first | exact Below.refl _ _ | refine below_set ?_ (by omega) | refine below_set ?_ (by simp; done) | refine below_step ?_ hb | apply below_alloc | apply pw_below_drewN | apply below_drew1))⟩
   
   have e19 : (op == 19) = false := by simpa using h19
   by_cases h20 : op = 20
   ·subst h20
    have E : cmpV 20 true m true n = truthV (m != n) := rfl
    have HE := am E
    rw [E]
    clear E
    go_enter Tryd.func43, Tryd.ntmps43
    go_wp2_with (go_at_call 53; refine (num_truth _ _ (HG.out.below (by repeat (first | exact Below.refl _ _ | apply below_alloc | apply pw_below_drewN | apply below_drew1)))).mono ?_; rintro e w' ⟨rfl, hb⟩; obtain ⟨hc, hf⟩ := bcell hb)
    refine bodyPost_ret (v := .agg #[.bool (truthV (m != n)).1, .int .i64 (truthV (m != n)).2]) (by simp [results, Tryd.results43, go_sem, *]) rfl ⟨rfl, (by repeat (first | exact Below.refl _ _ | refine below_set ?_ (by omega) | refine below_set ?_ (by simp; done) | refine below_step ?_ hb | apply below_alloc | apply pw_below_drewN | apply below_drew1))⟩
   
   have e20 : (op == 20) = false := by simpa using h20
   by_cases h21 : op = 21
   ·subst h21
    have E : cmpV 21 true m true n = truthV (decide (m < n)) := rfl
    have HE := am E
    rw [E]
    clear E
    go_enter Tryd.func43, Tryd.ntmps43
    go_wp2_with (go_at_call 53; refine (num_truth _ _ (HG.out.below (by repeat (first | exact Below.refl _ _ | apply below_alloc | apply pw_below_drewN | apply below_drew1)))).mono ?_; rintro e w' ⟨rfl, hb⟩; obtain ⟨hc, hf⟩ := bcell hb)
    refine bodyPost_ret (v := .agg #[.bool (truthV (decide (m < n))).1, .int .i64 (truthV (decide (m < n))).2]) (by simp [results, Tryd.results43, go_sem, *]) rfl ⟨rfl, (by repeat (first | exact Below.refl _ _ | refine below_set ?_ (by omega) | refine below_set ?_ (by simp; done) | refine below_step ?_ hb | apply below_alloc | apply pw_below_drewN | apply below_drew1))⟩
   
   have e21 : (op == 21) = false := by simpa using h21
   by_cases h22 : op = 22
   ·subst h22
    have E : cmpV 22 true m true n = truthV (decide (m ≤ n)) := rfl
    have HE := am E
    rw [E]
    clear E
    go_enter Tryd.func43, Tryd.ntmps43
    go_wp2_with (go_at_call 53; refine (num_truth _ _ (HG.out.below (by repeat (first | exact Below.refl _ _ | apply below_alloc | apply pw_below_drewN | apply below_drew1)))).mono ?_; rintro e w' ⟨rfl, hb⟩; obtain ⟨hc, hf⟩ := bcell hb)
    refine bodyPost_ret (v := .agg #[.bool (truthV (decide (m ≤ n))).1, .int .i64 (truthV (decide (m ≤ n))).2]) (by simp [results, Tryd.results43, go_sem, *]) rfl ⟨rfl, (by repeat (first | exact Below.refl _ _ | refine below_set ?_ (by omega) | refine below_set ?_ (by simp; done) | refine below_step ?_ hb | apply below_alloc | apply pw_below_drewN | apply below_drew1))⟩
   
   have e22 : (op == 22) = false := by simpa using h22
   by_cases h23 : op = 23
   ·subst h23
    have E : cmpV 23 true m true n = truthV (decide (n < m)) := rfl
    have HE := am E
    rw [E]
    clear E
    go_enter Tryd.func43, Tryd.ntmps43
    go_wp2_with (go_at_call 53; refine (num_truth _ _ (HG.out.below (by repeat (first | exact Below.refl _ _ | apply below_alloc | apply pw_below_drewN | apply below_drew1)))).mono ?_; rintro e w' ⟨rfl, hb⟩; obtain ⟨hc, hf⟩ := bcell hb)
    refine bodyPost_ret (v := .agg #[.bool (truthV (decide (n < m))).1, .int .i64 (truthV (decide (n < m))).2]) (by simp [results, Tryd.results43, go_sem, *]) rfl ⟨rfl, (by repeat (first | exact Below.refl _ _ | refine below_set ?_ (by omega) | refine below_set ?_ (by simp; done) | refine below_step ?_ hb | apply below_alloc | apply pw_below_drewN | apply below_drew1))⟩
   
   have e23 : (op == 23) = false := by simpa using h23
   by_cases h24 : op = 24
   ·subst h24
    have E : cmpV 24 true m true n = truthV (decide (n ≤ m)) := rfl
    have HE := am E
    rw [E]
    clear E
    go_enter Tryd.func43, Tryd.ntmps43
    go_wp2_with (go_at_call 53; refine (num_truth _ _ (HG.out.below (by repeat (first | exact Below.refl _ _ | apply below_alloc | apply pw_below_drewN | apply below_drew1)))).mono ?_; rintro e w' ⟨rfl, hb⟩; obtain ⟨hc, hf⟩ := bcell hb)
    refine bodyPost_ret (v := .agg #[.bool (truthV (decide (n ≤ m))).1, .int .i64 (truthV (decide (n ≤ m))).2]) (by simp [results, Tryd.results43, go_sem, *]) rfl ⟨rfl, (by repeat (first | exact Below.refl _ _ | refine below_set ?_ (by omega) | refine below_set ?_ (by simp; done) | refine below_step ?_ hb | apply below_alloc | apply pw_below_drewN | apply below_drew1))⟩
   
   have e24 : (op == 24) = false := by simpa using h24
   have E : cmpV op true m true n = (false, 0) := by simp [cmpV, h19, h20, h21, h22, h23, h24]
   clear h19 h20 h21 h22 h23 h24
   have HE := am (show cmpV op true m true n = (false, 0) from by exact E)
   rw [HE.out]
   clear E
   go_enter Tryd.func43, Tryd.ntmps43
   go_wp2
   refine bodyPost_ret (v := .agg #[.bool false, .int .i64 0]) (by simp [results, Tryd.results43, go_sem, *]) rfl ⟨rfl, (by repeat (first | exact Below.refl _ _ | refine below_set ?_ (by omega) | refine below_set ?_ (by simp; done) | refine below_step ?_ hb | apply below_alloc | apply pw_below_drewN | apply below_drew1))⟩
def sizeU (n : Int) : Int := if n < 0 then IntKind.u64.wrap (-(IntKind.u64.wrap n)) else IntKind.u64.wrap n
theorem size_f (n : Int) : num_size.f n = some (sizeU n) := by
 unfold num_size.f sizeU
 split <;> rfl
def mulHi (x y : Int) : Int := ((bits_Mul64.f x y).getD (0, 0)).1
def mulLo (x y : Int) : Int := ((bits_Mul64.f x y).getD (0, 0)).2
theorem mul_f (x y : Int) : bits_Mul64.f x y = some (mulHi x y, mulLo x y) := rfl
def mulR (hi lo m n : Int) : Bool × Int := if (hi != 0) = true then (false, 0) else if ((decide (m < 0) != decide (n < 0)) && decide (lo ≤ 9223372036854775808)) = true then (true, wrap64 (IntKind.u64.wrap (-lo))) else if (!(decide (m < 0) != decide (n < 0)) && decide (lo < 9223372036854775808)) = true then (true, wrap64 lo) else (false, 0)
def mulV (a : Bool) (m : Int) (b : Bool) (n : Int) : Bool × Int := if a && b then mulR (mulHi (sizeU m) (sizeU n)) (mulLo (sizeU m) (sizeU n)) m n else (false, 0)
theorem quiet_drawn {P : Program} {f : FuncId} {args : Array Value} {w : World} {n : Nat} {v : Value} (h : Calls P f args (w.drewN n) fun e w' => e = .returned v ∧ Drawn0 (w.drewN n) w') : Calls P f args (w.drewN n) fun e w'' => e = .returned v ∧ ∃ m, w'' = w.drewN m :=
 Calls.quiet_of (h.mono fun _ _ ⟨he, hd⟩ => ⟨he, hd.out⟩)
set_option maxHeartbeats 1000000 in
set_option maxRecDepth 100000 in
theorem num_Mul (a : Bool) (m : Int) (b : Bool) (n : Int) (w : World) (G : Glob w) :
  Calls Tryd.prog 38 #[.agg #[.bool a, .int .i64 m], .agg #[.bool b, .int .i64 n]] w fun e w' => e = .returned (.agg #[.bool (mulV a m b n).1, .int .i64 (mulV a m b n).2]) ∧ Below w.heap.size w w' := by
 have hz := G.size
 have hg0 := G.unk0
 have hg1 := G.unk1
 have hz0 : 0 < w.heap.size := by omega
 have hz1 : 1 < w.heap.size := by omega
 clear hz
 have HG := am G
 clear G
 cases a with
 | false =>
  have HE := am (show mulV false m b n = (false, 0) from by rfl)
  rw [HE.out]
  go_enter Tryd.func38, Tryd.ntmps38
  go_wp2
  refine bodyPost_ret (v := .agg #[.bool false, .int .i64 0]) (by simp [results, Tryd.results38, go_sem, *]) rfl ⟨rfl, (by repeat (first | exact Below.refl _ _ | refine below_set ?_ (by omega) | refine below_set ?_ (by simp; done) | refine below_step ?_ hb | apply below_alloc | apply pw_below_drewN | apply below_drew1))⟩
 | true =>
  cases b with
  | false =>
   have HE := am (show mulV true m false n = (false, 0) from by rfl)
   rw [HE.out]
   go_enter Tryd.func38, Tryd.ntmps38
   go_wp2
   refine bodyPost_ret (v := .agg #[.bool false, .int .i64 0]) (by simp [results, Tryd.results38, go_sem, *]) rfl ⟨rfl, (by repeat (first | exact Below.refl _ _ | refine below_set ?_ (by omega) | refine below_set ?_ (by simp; done) | refine below_step ?_ hb | apply below_alloc | apply pw_below_drewN | apply below_drew1))⟩
  | true =>
   cases hh : (mulHi (sizeU m) (sizeU n) != 0)
   ·cases h1 : decide (m < 0) <;> cases h2 : decide (n < 0)
    ·cases h4 : decide (mulLo (sizeU m) (sizeU n) < 9223372036854775808)
     ·
      have HE := am (show mulV true m true n = (false, 0) from by simp only [mulV, mulR, hh, h1, h2, h4]; rfl)
      rw [HE.out]
      go_enter Tryd.func38, Tryd.ntmps38
      go_wp2
      go_quiet ((first | (go_at_call 52; exact quiet_drawn (num_size.calls _ _ _ (size_f _))) | (go_at_call 51; exact quiet_drawn (bits_Mul64.calls _ _ _ _ _ (mul_f _ _)))))
      go_wp2
      refine bodyPost_ret (v := .agg #[.bool false, .int .i64 0]) (by simp [results, Tryd.results38, go_sem, *]) rfl ⟨rfl, (by repeat (first | exact Below.refl _ _ | refine below_set ?_ (by omega) | refine below_set ?_ (by simp; done) | refine below_step ?_ hb | apply below_alloc | apply pw_below_drewN | apply below_drew1))⟩
     
     have HE := am (show mulV true m true n = (true, (wrap64 (mulLo (sizeU m) (sizeU n)))) from by simp only [mulV, mulR, hh, h1, h2, h4]; rfl)
     rw [HE.out]
     go_enter Tryd.func38, Tryd.ntmps38
     go_wp2
     go_quiet ((first | (go_at_call 52; exact quiet_drawn (num_size.calls _ _ _ (size_f _))) | (go_at_call 51; exact quiet_drawn (bits_Mul64.calls _ _ _ _ _ (mul_f _ _)))))
     go_wp2_with (go_at_call 34; refine (num_known.calls _ _ _ _ rfl).mono ?_; rintro e w' ⟨rfl, hb⟩; obtain ⟨hc, hf⟩ := bcell hb)
     refine bodyPost_ret (v := .agg #[.bool true, .int .i64 (wrap64 (mulLo (sizeU m) (sizeU n)))]) (by simp [results, Tryd.results38, go_sem, *]) rfl ⟨rfl, (by repeat (first | exact Below.refl _ _ | refine below_set ?_ (by omega) | refine below_set ?_ (by simp; done) | refine below_step ?_ hb | apply below_alloc | apply pw_below_drewN | apply below_drew1))⟩
    ·cases h3 : decide (mulLo (sizeU m) (sizeU n) ≤ 9223372036854775808)
     ·
      have HE := am (show mulV true m true n = (false, 0) from by simp only [mulV, mulR, hh, h1, h2, h3]; rfl)
      rw [HE.out]
      go_enter Tryd.func38, Tryd.ntmps38
      go_wp2
      go_quiet ((first | (go_at_call 52; exact quiet_drawn (num_size.calls _ _ _ (size_f _))) | (go_at_call 51; exact quiet_drawn (bits_Mul64.calls _ _ _ _ _ (mul_f _ _)))))
      go_wp2
      refine bodyPost_ret (v := .agg #[.bool false, .int .i64 0]) (by simp [results, Tryd.results38, go_sem, *]) rfl ⟨rfl, (by repeat (first | exact Below.refl _ _ | refine below_set ?_ (by omega) | refine below_set ?_ (by simp; done) | refine below_step ?_ hb | apply below_alloc | apply pw_below_drewN | apply below_drew1))⟩
     
     have HE := am (show mulV true m true n = (true, (wrap64 (IntKind.u64.wrap (-(mulLo (sizeU m) (sizeU n)))))) from by simp only [mulV, mulR, hh, h1, h2, h3]; rfl)
     rw [HE.out]
     go_enter Tryd.func38, Tryd.ntmps38
     go_wp2
     go_quiet ((first | (go_at_call 52; exact quiet_drawn (num_size.calls _ _ _ (size_f _))) | (go_at_call 51; exact quiet_drawn (bits_Mul64.calls _ _ _ _ _ (mul_f _ _)))))
     go_wp2_with (go_at_call 34; refine (num_known.calls _ _ _ _ rfl).mono ?_; rintro e w' ⟨rfl, hb⟩; obtain ⟨hc, hf⟩ := bcell hb)
     refine bodyPost_ret (v := .agg #[.bool true, .int .i64 (wrap64 (IntKind.u64.wrap (-(mulLo (sizeU m) (sizeU n)))))]) (by simp [results, Tryd.results38, go_sem, *]) rfl ⟨rfl, (by repeat (first | exact Below.refl _ _ | refine below_set ?_ (by omega) | refine below_set ?_ (by simp; done) | refine below_step ?_ hb | apply below_alloc | apply pw_below_drewN | apply below_drew1))⟩
    ·cases h3 : decide (mulLo (sizeU m) (sizeU n) ≤ 9223372036854775808)
     ·
      have HE := am (show mulV true m true n = (false, 0) from by simp only [mulV, mulR, hh, h1, h2, h3]; rfl)
      rw [HE.out]
      go_enter Tryd.func38, Tryd.ntmps38
      go_wp2
      go_quiet ((first | (go_at_call 52; exact quiet_drawn (num_size.calls _ _ _ (size_f _))) | (go_at_call 51; exact quiet_drawn (bits_Mul64.calls _ _ _ _ _ (mul_f _ _)))))
      go_wp2
      refine bodyPost_ret (v := .agg #[.bool false, .int .i64 0]) (by simp [results, Tryd.results38, go_sem, *]) rfl ⟨rfl, (by repeat (first | exact Below.refl _ _ | refine below_set ?_ (by omega) | refine below_set ?_ (by simp; done) | refine below_step ?_ hb | apply below_alloc | apply pw_below_drewN | apply below_drew1))⟩
     
     have HE := am (show mulV true m true n = (true, (wrap64 (IntKind.u64.wrap (-(mulLo (sizeU m) (sizeU n)))))) from by simp only [mulV, mulR, hh, h1, h2, h3]; rfl)
     rw [HE.out]
     go_enter Tryd.func38, Tryd.ntmps38
     go_wp2
     go_quiet ((first | (go_at_call 52; exact quiet_drawn (num_size.calls _ _ _ (size_f _))) | (go_at_call 51; exact quiet_drawn (bits_Mul64.calls _ _ _ _ _ (mul_f _ _)))))
     go_wp2_with (go_at_call 34; refine (num_known.calls _ _ _ _ rfl).mono ?_; rintro e w' ⟨rfl, hb⟩; obtain ⟨hc, hf⟩ := bcell hb)
     refine bodyPost_ret (v := .agg #[.bool true, .int .i64 (wrap64 (IntKind.u64.wrap (-(mulLo (sizeU m) (sizeU n)))))]) (by simp [results, Tryd.results38, go_sem, *]) rfl ⟨rfl, (by repeat (first | exact Below.refl _ _ | refine below_set ?_ (by omega) | refine below_set ?_ (by simp; done) | refine below_step ?_ hb | apply below_alloc | apply pw_below_drewN | apply below_drew1))⟩
    cases h4 : decide (mulLo (sizeU m) (sizeU n) < 9223372036854775808)
    ·
     have HE := am (show mulV true m true n = (false, 0) from by simp only [mulV, mulR, hh, h1, h2, h4]; rfl)
     rw [HE.out]
     go_enter Tryd.func38, Tryd.ntmps38
     go_wp2
     go_quiet ((first | (go_at_call 52; exact quiet_drawn (num_size.calls _ _ _ (size_f _))) | (go_at_call 51; exact quiet_drawn (bits_Mul64.calls _ _ _ _ _ (mul_f _ _)))))
     go_wp2
     refine bodyPost_ret (v := .agg #[.bool false, .int .i64 0]) (by simp [results, Tryd.results38, go_sem, *]) rfl ⟨rfl, (by repeat (first | exact Below.refl _ _ | refine below_set ?_ (by omega) | refine below_set ?_ (by simp; done) | refine below_step ?_ hb | apply below_alloc | apply pw_below_drewN | apply below_drew1))⟩
    
    have HE := am (show mulV true m true n = (true, (wrap64 (mulLo (sizeU m) (sizeU n)))) from by simp only [mulV, mulR, hh, h1, h2, h4]; rfl)
    rw [HE.out]
    go_enter Tryd.func38, Tryd.ntmps38
    go_wp2
    go_quiet ((first | (go_at_call 52; exact quiet_drawn (num_size.calls _ _ _ (size_f _))) | (go_at_call 51; exact quiet_drawn (bits_Mul64.calls _ _ _ _ _ (mul_f _ _)))))
    go_wp2_with (go_at_call 34; refine (num_known.calls _ _ _ _ rfl).mono ?_; rintro e w' ⟨rfl, hb⟩; obtain ⟨hc, hf⟩ := bcell hb)
    refine bodyPost_ret (v := .agg #[.bool true, .int .i64 (wrap64 (mulLo (sizeU m) (sizeU n)))]) (by simp [results, Tryd.results38, go_sem, *]) rfl ⟨rfl, (by repeat (first | exact Below.refl _ _ | refine below_set ?_ (by omega) | refine below_set ?_ (by simp; done) | refine below_step ?_ hb | apply below_alloc | apply pw_below_drewN | apply below_drew1))⟩
   
   have HE := am (show mulV true m true n = (false, 0) from by simp only [mulV, mulR, hh]; rfl)
   rw [HE.out]
   go_enter Tryd.func38, Tryd.ntmps38
   go_wp2
   go_quiet ((first | (go_at_call 52; exact quiet_drawn (num_size.calls _ _ _ (size_f _))) | (go_at_call 51; exact quiet_drawn (bits_Mul64.calls _ _ _ _ _ (mul_f _ _)))))
   go_wp2
   refine bodyPost_ret (v := .agg #[.bool false, .int .i64 0]) (by simp [results, Tryd.results38, go_sem, *]) rfl ⟨rfl, (by repeat (first | exact Below.refl _ _ | refine below_set ?_ (by omega) | refine below_set ?_ (by simp; done) | refine below_step ?_ hb | apply below_alloc | apply pw_below_drewN | apply below_drew1))⟩
def applyV (op : Int) (a : Bool) (m : Int) (b : Bool) (n : Int) : Bool × Int := if op = 14 then addV a m b n else if op = 15 then subV a m b n else if op = 16 then mulV a m b n else if op = 17 then divV a m b n else if op = 18 then modV a m b n else if op = 25 then andV a m b n else if op = 26 then orV a m b n else cmpV op a m b n
set_option maxHeartbeats 1000000 in
set_option maxRecDepth 100000 in
theorem num_Apply (op : Int) (a : Bool) (m : Int) (b : Bool) (n : Int) (w : World) (G : Glob w) :
  Calls Tryd.prog 24 #[.int .i64 op, .agg #[.bool a, .int .i64 m], .agg #[.bool b, .int .i64 n]] w fun e w' => e = .returned (.agg #[.bool (applyV op a m b n).1, .int .i64 (applyV op a m b n).2]) ∧ Below w.heap.size w w' := by
 have hz := G.size
 have hg0 := G.unk0
 have hg1 := G.unk1
 have hz0 : 0 < w.heap.size := by omega
 have hz1 : 1 < w.heap.size := by omega
 clear hz
 have HG := am G
 clear G
 by_cases h14 : op = 14
 ·subst h14
  have E : applyV 14 a m b n = addV a m b n := rfl
  have HE := am E
  rw [E]
  clear E
  go_enter Tryd.func24, Tryd.ntmps24
  go_wp2_with (go_at_call 36; refine (num_Add _ _ _ _ _ (HG.out.below (by repeat (first | exact Below.refl _ _ | apply below_alloc | apply pw_below_drewN | apply below_drew1)))).mono ?_; rintro e w' ⟨rfl, hb⟩; obtain ⟨hc, hf⟩ := bcell hb)
  refine bodyPost_ret (v := .agg #[.bool (addV a m b n).1, .int .i64 (addV a m b n).2]) (by simp [results, Tryd.results24, go_sem, *]) rfl ⟨rfl, (by repeat (first | exact Below.refl _ _ | refine below_set ?_ (by omega) | refine below_set ?_ (by simp; done) | refine below_step ?_ hb | apply below_alloc | apply pw_below_drewN | apply below_drew1))⟩
 
 have e14 : (op == 14) = false := by simpa using h14
 by_cases h15 : op = 15
 ·subst h15
  have E : applyV 15 a m b n = subV a m b n := rfl
  have HE := am E
  rw [E]
  clear E
  go_enter Tryd.func24, Tryd.ntmps24
  go_wp2_with (go_at_call 37; refine (num_Sub _ _ _ _ _ (HG.out.below (by repeat (first | exact Below.refl _ _ | apply below_alloc | apply pw_below_drewN | apply below_drew1)))).mono ?_; rintro e w' ⟨rfl, hb⟩; obtain ⟨hc, hf⟩ := bcell hb)
  refine bodyPost_ret (v := .agg #[.bool (subV a m b n).1, .int .i64 (subV a m b n).2]) (by simp [results, Tryd.results24, go_sem, *]) rfl ⟨rfl, (by repeat (first | exact Below.refl _ _ | refine below_set ?_ (by omega) | refine below_set ?_ (by simp; done) | refine below_step ?_ hb | apply below_alloc | apply pw_below_drewN | apply below_drew1))⟩
 
 have e15 : (op == 15) = false := by simpa using h15
 by_cases h16 : op = 16
 ·subst h16
  have E : applyV 16 a m b n = mulV a m b n := rfl
  have HE := am E
  rw [E]
  clear E
  go_enter Tryd.func24, Tryd.ntmps24
  go_wp2_with (go_at_call 38; refine (num_Mul _ _ _ _ _ (HG.out.below (by repeat (first | exact Below.refl _ _ | apply below_alloc | apply pw_below_drewN | apply below_drew1)))).mono ?_; rintro e w' ⟨rfl, hb⟩; obtain ⟨hc, hf⟩ := bcell hb)
  refine bodyPost_ret (v := .agg #[.bool (mulV a m b n).1, .int .i64 (mulV a m b n).2]) (by simp [results, Tryd.results24, go_sem, *]) rfl ⟨rfl, (by repeat (first | exact Below.refl _ _ | refine below_set ?_ (by omega) | refine below_set ?_ (by simp; done) | refine below_step ?_ hb | apply below_alloc | apply pw_below_drewN | apply below_drew1))⟩
 
 have e16 : (op == 16) = false := by simpa using h16
 by_cases h17 : op = 17
 ·subst h17
  have E : applyV 17 a m b n = divV a m b n := rfl
  have HE := am E
  rw [E]
  clear E
  go_enter Tryd.func24, Tryd.ntmps24
  go_wp2_with (go_at_call 39; refine (num_Div _ _ _ _ _ (HG.out.below (by repeat (first | exact Below.refl _ _ | apply below_alloc | apply pw_below_drewN | apply below_drew1)))).mono ?_; rintro e w' ⟨rfl, hb⟩; obtain ⟨hc, hf⟩ := bcell hb)
  refine bodyPost_ret (v := .agg #[.bool (divV a m b n).1, .int .i64 (divV a m b n).2]) (by simp [results, Tryd.results24, go_sem, *]) rfl ⟨rfl, (by repeat (first | exact Below.refl _ _ | refine below_set ?_ (by omega) | refine below_set ?_ (by simp; done) | refine below_step ?_ hb | apply below_alloc | apply pw_below_drewN | apply below_drew1))⟩
 
 have e17 : (op == 17) = false := by simpa using h17
 by_cases h18 : op = 18
 ·subst h18
  have E : applyV 18 a m b n = modV a m b n := rfl
  have HE := am E
  rw [E]
  clear E
  go_enter Tryd.func24, Tryd.ntmps24
  go_wp2_with (go_at_call 40; refine (num_Mod _ _ _ _ _ (HG.out.below (by repeat (first | exact Below.refl _ _ | apply below_alloc | apply pw_below_drewN | apply below_drew1)))).mono ?_; rintro e w' ⟨rfl, hb⟩; obtain ⟨hc, hf⟩ := bcell hb)
  refine bodyPost_ret (v := .agg #[.bool (modV a m b n).1, .int .i64 (modV a m b n).2]) (by simp [results, Tryd.results24, go_sem, *]) rfl ⟨rfl, (by repeat (first | exact Below.refl _ _ | refine below_set ?_ (by omega) | refine below_set ?_ (by simp; done) | refine below_step ?_ hb | apply below_alloc | apply pw_below_drewN | apply below_drew1))⟩
 
 have e18 : (op == 18) = false := by simpa using h18
 by_cases h25 : op = 25
 ·subst h25
  have E : applyV 25 a m b n = andV a m b n := rfl
  have HE := am E
  rw [E]
  clear E
  go_enter Tryd.func24, Tryd.ntmps24
  go_wp2_with (go_at_call 41; refine (num_And _ _ _ _ _ (HG.out.below (by repeat (first | exact Below.refl _ _ | apply below_alloc | apply pw_below_drewN | apply below_drew1)))).mono ?_; rintro e w' ⟨rfl, hb⟩; obtain ⟨hc, hf⟩ := bcell hb)
  refine bodyPost_ret (v := .agg #[.bool (andV a m b n).1, .int .i64 (andV a m b n).2]) (by simp [results, Tryd.results24, go_sem, *]) rfl ⟨rfl, (by repeat (first | exact Below.refl _ _ | refine below_set ?_ (by omega) | refine below_set ?_ (by simp; done) | refine below_step ?_ hb | apply below_alloc | apply pw_below_drewN | apply below_drew1))⟩
 
 have e25 : (op == 25) = false := by simpa using h25
 by_cases h26 : op = 26
 ·subst h26
  have E : applyV 26 a m b n = orV a m b n := rfl
  have HE := am E
  rw [E]
  clear E
  go_enter Tryd.func24, Tryd.ntmps24
  go_wp2_with (go_at_call 42; refine (num_Or _ _ _ _ _ (HG.out.below (by repeat (first | exact Below.refl _ _ | apply below_alloc | apply pw_below_drewN | apply below_drew1)))).mono ?_; rintro e w' ⟨rfl, hb⟩; obtain ⟨hc, hf⟩ := bcell hb)
  refine bodyPost_ret (v := .agg #[.bool (orV a m b n).1, .int .i64 (orV a m b n).2]) (by simp [results, Tryd.results24, go_sem, *]) rfl ⟨rfl, (by repeat (first | exact Below.refl _ _ | refine below_set ?_ (by omega) | refine below_set ?_ (by simp; done) | refine below_step ?_ hb | apply below_alloc | apply pw_below_drewN | apply below_drew1))⟩
 
 have e26 : (op == 26) = false := by simpa using h26
 have E : applyV op a m b n = cmpV op a m b n := by simp [applyV, h14, h15, h16, h17, h18, h25, h26]
 clear h14 h15 h16 h17 h18 h25 h26
 have HE := am E
 rw [E]
 clear E
 go_enter Tryd.func24, Tryd.ntmps24
 go_wp2_with (go_at_call 43; refine (num_Compare _ _ _ _ _ _ (HG.out.below (by repeat (first | exact Below.refl _ _ | apply below_alloc | apply pw_below_drewN | apply below_drew1)))).mono ?_; rintro e w' ⟨rfl, hb⟩; obtain ⟨hc, hf⟩ := bcell hb)
 refine bodyPost_ret (v := .agg #[.bool (cmpV op a m b n).1, .int .i64 (cmpV op a m b n).2]) (by simp [results, Tryd.results24, go_sem, *]) rfl ⟨rfl, (by repeat (first | exact Below.refl _ _ | refine below_set ?_ (by omega) | refine below_set ?_ (by simp; done) | refine below_step ?_ hb | apply below_alloc | apply pw_below_drewN | apply below_drew1))⟩
end Go.Proofs.YtbhpjpeknooppaaDoor.M
namespace Go.Proofs.YtbhpjpeknooppaaDoor.M
open Go.RowKit Go.Proofs.YtbhpjpeknooppaaDoorW.PrintWords Go.Proofs.YtbhpjpeknooppaaDoorW.PrintLast Go.Proofs.YtbhpjpeknooppaaDoorW.PrintMore
open Go.Proofs.YtbhpjpeknooppaaDoor.PCodeSpares
attribute [local go_sem] max2_int min2_int max_two min_two max_three min_three max_four min_four
set_option linter.unusedVariables false
set_option linter.unusedSimpArgs false
theorem add64_run (x y c : Int) (hx : 0 ≤ x) (hy : 0 ≤ y) (hc0 : 0 ≤ c) (hc : c ≤ 1) (w : World) :
  (callFunc 59 #[.int .u64 x, .int .u64 y, .int .u64 c]).run Tryd.prog w =
   .ok (.value (.tuple #[.int .u64 ((x + y + c) % 18446744073709551616), .int .u64 ((x + y + c) / 18446744073709551616)])) w := by
 rw [run_callFunc_extern Tryd.func59 (by kernel_rfl) (by kernel_rfl) (by kernel_rfl) (e := add64Entry) (by kernel_rfl), run_add64 x y c hx hy hc0 hc]
 rfl
theorem C_at {α : Type} {enc : α → Value} {h1 : ∀ x, (enc x).oneCell' = true} {w : World} {A : Option Addr} {n : Nat} {xs : List α} (d : α) (h : (Kd.scalar enc h1).C w A n xs) (i : Nat) (hi : i < n) : ∃ ad, A = some ad ∧ w.cell? (ad.add i) = some (enc (xs.getD i d)) := by
 obtain ⟨ad, e, hc⟩ := (Kd.reads_of_C (d := d) h).at_ (i : Int) (by omega) (by omega)
 exact ⟨ad, e, hc⟩
theorem u64_bd (x : Int) : 0 ≤ IntKind.u64.wrap x ∧ IntKind.u64.wrap x < 18446744073709551616 := by
 have e : IntKind.u64.wrap x = x % 18446744073709551616 := by simp [IntKind.wrap, IntKind.signed, IntKind.bits]
 rw [e]
 omega
def sumStep (s : Int × Int) (n : Int) : Int × Int := ((s.1 + IntKind.u64.wrap (n / 9223372036854775808) + (s.2 + IntKind.u64.wrap n) / 18446744073709551616) % 18446744073709551616, (s.2 + IntKind.u64.wrap n) % 18446744073709551616)
def sumHL (l : List Int) : Int × Int := l.foldl sumStep (0, 0)
theorem sumHL_succ (l : List Int) (k : Nat) (h : k < l.length) : sumHL (l.take (k + 1)) = sumStep (sumHL (l.take k)) l[k] := by
 unfold sumHL
 rw [List.take_succ_eq_append_getElem h, List.foldl_append]
 rfl
def sumV (l : List Int) : Bool × Int := if (wrap64 (sumHL l).1 != wrap64 (sumHL l).2 / 9223372036854775808) = true then (false, 0) else (true, wrap64 (sumHL l).2)
theorem carry_bd (a x : Int) (h0 : 0 ≤ a) (h1 : a < 18446744073709551616) : 0 ≤ (a + IntKind.u64.wrap x) / 18446744073709551616 ∧ (a + IntKind.u64.wrap x) / 18446744073709551616 ≤ 1 := by
 have := u64_bd x
 omega
theorem mod_bd (a : Int) : 0 ≤ a % 18446744073709551616 ∧ a % 18446744073709551616 < 18446744073709551616 := by omega
set_option maxHeartbeats 1000000 in
set_option maxRecDepth 100000 in
theorem num_sum (A : Option Addr) (c : Nat) (l : List Int) (w : World) (G : Glob w) (hr : Kd.C (Kd.int .i64) w A l.length l) (hl : l.length ≤ 9223372036854775807) :
  Calls Tryd.prog 56 #[.slice A l.length c] w fun e w' => e = .returned (.agg #[.bool (sumV l).1, .int .i64 (sumV l).2]) ∧ Below w.heap.size w w' := by
 have HG := am G
 clear G
 have HR := am hr
 clear hr
 have hadd := add64_run
 go_enter Tryd.func56, Tryd.ntmps56
 go_wp2_with ((with_reducible refine gate_dst (N := 2) rfl ?_); refine box_event ?hg (N := 2) ?hd (cs := #[.bool false, .int .i64 0]) (t := 50) ?hr ?_; (case hd => rfl); (case hg => rfl); (case hr => first | (go_simp; done) | (go_simp; rfl)); intro gb hgb w2 hbox hb; have HB := am hb; have BK := am hbox; have GE := am (Nat.le_of_eq hgb.symm); have G2 := am (HG.out.below hb); have R2 := am (Kd.C_below HR.out hb); clear hb hbox hgb)
 go_loop [12, 3, 4, 6, 7, 8] (fun i hi lo a b c => ∃ k : Nat, k ≤ l.length ∧ i = .int .i64 k ∧ Aside0 (0 ≤ (sumHL (l.take k)).1 ∧ 0 ≤ (sumHL (l.take k)).2 ∧ (sumHL (l.take k)).2 < 18446744073709551616) ∧ hi = .int .u64 (sumHL (l.take k)).1 ∧ lo = .int .u64 (sumHL (l.take k)).2) (fun i _ _ _ _ _ => l.length - (intOf i).toNat)
 case atStart => exact ⟨0, Nat.zero_le _, rfl, ⟨by simp [sumHL]⟩, rfl, rfl⟩
 case round =>
  obtain ⟨k, hk, rfl, HS, rfl, rfl⟩ := hrel
  by_cases hlt : k < l.length
  ·obtain ⟨ad, rfl, hcell⟩ := C_at (0 : Int) R2.out k hlt
   have HN := am (sumHL_succ l k hlt)
   obtain ⟨s1, hs1⟩ : ∃ s, s = (sumHL (l.take k)).1 := ⟨_, rfl⟩
   obtain ⟨s2, hs2⟩ : ∃ s, s = (sumHL (l.take k)).2 := ⟨_, rfl⟩
   have E1 := am hs1
   have E2 := am hs2
   obtain ⟨b1, b2, b3⟩ := HS.out
   rw [← hs1] at b1
   rw [← hs2] at b2 b3
   simp only [← hs1, ← hs2]
   clear hs1 hs2 HS
   obtain ⟨c0, c1⟩ := carry_bd s2 l[k] b2 b3
   obtain ⟨u0, _⟩ := u64_bd l[k]
   obtain ⟨u1, _⟩ := u64_bd (l[k] / 9223372036854775808)
   go_wp2
   go_round
   case rel =>
    have hst : sumHL (l.take (k + 1)) = sumStep (s1, s2) l[k] := by rw [HN.out, E1.out, E2.out]
    refine ⟨k + 1, by omega, by go_num, ⟨?_⟩, by rw [hst]; rfl, by rw [hst]; rfl⟩
    rw [hst]
    exact ⟨(mod_bd _).1, (mod_bd _).1, (mod_bd _).2⟩
   case measure => simp [intOf]; omega
  have hg0 := G2.out.unk0
  have hg1 := G2.out.unk1
  have hcz0 : w2.cell? ⟨gb, 0, none⟩ = some (.bool false) := (blk_cell BK.out 0).trans rfl
  have hcz1 : w2.cell? ⟨gb, 1, none⟩ = some (.int .i64 0) := (blk_cell BK.out 1).trans rfl
  have hf0 := blk_frozen BK.out 0
  have hf1 := blk_frozen BK.out 1
  have hkk : k = l.length := by omega
  have HT := am (show l.take k = l from by rw [hkk, List.take_length])
  clear hkk
  have hgz : gb < w2.heap.size := blk_lt BK.out
  cases ht : (wrap64 (sumHL (l.take k)).1 != wrap64 (sumHL (l.take k)).2 / 9223372036854775808)
  ·have HE := am (show sumV l = (true, wrap64 (sumHL (l.take k)).2) from by rw [HT.out] at ht; simp only [sumV, ht, HT.out]; rfl)
   go_wp2_with (go_at_call 34; refine (num_known.calls _ _ _ _ rfl).mono ?_; rintro e w' ⟨rfl, hb⟩; obtain ⟨hc, hf⟩ := bcell hb)
   refine bodyPost_ret (v := .agg #[.bool true, .int .i64 (wrap64 (sumHL (l.take k)).2)]) (by simp [results, Tryd.results56, go_sem, *]) rfl ⟨by rw [HE.out], ?_⟩
   exact below_set (below_set (below_step HB.out hb) GE.out) GE.out
  have HE := am (show sumV l = (false, 0) from by rw [HT.out] at ht; simp only [sumV, ht]; rfl)
  go_wp2
  refine bodyPost_ret (v := .agg #[.bool false, .int .i64 0]) (by simp [results, Tryd.results56, go_sem, *]) rfl ⟨by rw [HE.out], ?_⟩
  exact below_set (below_set HB.out GE.out) GE.out
theorem add_zero_ (ad : Addr) : ad.add 0 = ad := by
 unfold Addr.add
 split <;> simp_all
def minT (l : List Int) (k : Nat) : Int := (l.take k).foldl mn (l.getD 0 0)
def maxT (l : List Int) (k : Nat) : Int := (l.take k).foldl mx (l.getD 0 0)
theorem minT_succ (l : List Int) (k : Nat) (h : k < l.length) : minT l (k + 1) = mn (minT l k) l[k] := by
 unfold minT
 rw [List.take_succ_eq_append_getElem h, List.foldl_append]
 rfl
theorem maxT_succ (l : List Int) (k : Nat) (h : k < l.length) : maxT l (k + 1) = mx (maxT l k) l[k] := by
 unfold maxT
 rw [List.take_succ_eq_append_getElem h, List.foldl_append]
 rfl
def foldV (op : Int) (l : List Int) : Bool × Int := if op = 5 then (true, l.length) else if op = 6 then sumV l else if l.length = 0 then (false, 0) else if op = 7 then (true, minT l l.length) else if op = 8 then (true, maxT l l.length) else if op = 9 then (true, l.getD 0 0) else if op = 10 then (true, l.getD (l.length - 1) 0) else (false, 0)
set_option maxHeartbeats 4000000 in
set_option maxRecDepth 100000 in
theorem num_Fold_p (op : Int) (A : Option Addr) (c : Nat) (l : List Int) (w : World) (G : Glob w) (hr : Kd.C (Kd.int .i64) w A l.length l) (hl : l.length ≤ 9223372036854775807) (h5 : (op == 5) = false) (h6 : (op == 6) = false) (hp : 0 < l.length) :
  Calls Tryd.prog 50 #[.int .i64 op, .slice A l.length c] w fun e w' => e = .returned (.agg #[.bool (foldV op l).1, .int .i64 (foldV op l).2]) ∧ Below w.heap.size w w' := by
 have HG := am G
 clear G
 have HR := am hr
 clear hr
 obtain ⟨ad, rfl, hcell1⟩ := C_at (0 : Int) HR.out 0 hp
 rw [add_zero_] at hcell1
 have hcell0 := am hcell1
 clear hcell1
 have hl0 : ((l.length : Int) == 0) = false := beq_eq_false_iff_ne.mpr (by omega)
 go_enter Tryd.func50, Tryd.ntmps50
 go_wp2_with ((with_reducible refine gate_dst (N := 4) rfl ?_); refine box_event ?hg (N := 4) ?hd (cs := #[.bool false, .int .i64 0]) (t := 50) ?hr ?_; (case hd => rfl); (case hg => rfl); (case hr => first | (go_simp; done) | (go_simp; rfl)); intro gb hgb w2 hbox hb; have HB := am hb; have BK := am hbox; have GE := am (Nat.le_of_eq hgb.symm); have G2 := am (HG.out.below hb); have R2 := am (Kd.C_below HR.out hb); have hcell := pw_cell_below hb hcell0.out; clear hb hbox hgb hcell0)
 go_quiet (fail)
 go_wp2
 have R3 := am (Kd.C_below R2.out (pw_below_drewN (Below.refl _ _) nq))
 have HX := am hcell
 clear hcell
 go_loop [31, 5, 6, 8] (fun i a b x => ∃ k : Nat, k ≤ l.length ∧ i = .int .i64 k ∧ a = .int .i64 (minT l k) ∧ b = .int .i64 (maxT l k)) (fun i _ _ _ => l.length - (intOf i).toNat)
 case atStart => exact ⟨0, Nat.zero_le _, rfl, by simp [minT, List.getElem?_eq_getElem hp], by simp [maxT, List.getElem?_eq_getElem hp]⟩
 case round =>
  obtain ⟨k, hk, rfl, rfl, rfl⟩ := hrel
  by_cases hlt : k < l.length
  ·obtain ⟨ad', hae, hcell⟩ := C_at (0 : Int) R3.out k hlt
   obtain rfl := Option.some.inj hae
   clear hae
   have H1 := am (minT_succ l k hlt)
   have H2 := am (maxT_succ l k hlt)
   obtain ⟨s1, hs1⟩ : ∃ s, s = minT l k := ⟨_, rfl⟩
   obtain ⟨s2, hs2⟩ : ∃ s, s = maxT l k := ⟨_, rfl⟩
   have E1 := am hs1
   have E2 := am hs2
   simp only [← hs1, ← hs2]
   clear hs1 hs2
   by_cases ha : l[k] < s1 <;> by_cases hb : s2 < l[k]
   all_goals
    have HA := am (show minT l (k + 1) = mn s1 l[k] from by rw [H1.out, E1.out])
    have HB2 := am (show maxT l (k + 1) = mx s2 l[k] from by rw [H2.out, E2.out])
    go_wp2
    go_round
    case rel => exact ⟨k + 1, by omega, by go_num, by rw [HA.out]; simp [mn, ha], by rw [HB2.out]; simp [mx, hb]⟩
    case measure => simp [intOf]; omega
  have hg0 := G2.out.unk0
  have hg1 := G2.out.unk1
  have hcz0 : w2.cell? ⟨gb, 0, none⟩ = some (.bool false) := (blk_cell BK.out 0).trans rfl
  have hcz1 : w2.cell? ⟨gb, 1, none⟩ = some (.int .i64 0) := (blk_cell BK.out 1).trans rfl
  have hf0 := blk_frozen BK.out 0
  have hf1 := blk_frozen BK.out 1
  obtain rfl : k = l.length := by omega
  have hgz : gb < w2.heap.size := blk_lt BK.out
  have hn5 : ¬ op = 5 := by simpa using h5
  have hn6 : ¬ op = 6 := by simpa using h6
  have hnl : ¬ l.length = 0 := by omega
  have HH := am (And.intro hn5 (And.intro hn6 hnl))
  clear hn5 hn6 hnl
  by_cases h7 : op = 7
  ·subst h7
   have HE := am (show foldV 7 l = (true, minT l l.length) from by rw [foldV, if_neg (by decide), if_neg (by decide), if_neg HH.out.2.2, if_pos rfl])
   go_wp2_with (go_at_call 34; refine (num_known.calls _ _ _ _ rfl).mono ?_; rintro e w' ⟨rfl, hb⟩; have B2 := am (blk_below (blk_drewN BK.out nq) hb); have c0 : w'.cell? ⟨gb, 0, none⟩ = some (.bool false) := (blk_cell B2.out 0).trans rfl; have c1 : w'.cell? ⟨gb, 1, none⟩ = some (.int .i64 0) := (blk_cell B2.out 1).trans rfl; have f0 := blk_frozen B2.out 0; have f1 := blk_frozen B2.out 1)
   refine bodyPost_ret (v := .agg #[.bool true, .int .i64 (minT l l.length)]) (by simp [results, Tryd.results50, go_sem, *]) rfl ⟨by rw [HE.out], ?_⟩
   exact below_set (below_set (below_step (pw_below_drewN HB.out nq) hb) GE.out) GE.out
  have e7 : (op == 7) = false := by simpa using h7
  by_cases h8 : op = 8
  ·subst h8
   have HE := am (show foldV 8 l = (true, maxT l l.length) from by rw [foldV, if_neg (by decide), if_neg (by decide), if_neg HH.out.2.2, if_neg (by decide), if_pos rfl])
   go_wp2_with (go_at_call 34; refine (num_known.calls _ _ _ _ rfl).mono ?_; rintro e w' ⟨rfl, hb⟩; have B2 := am (blk_below (blk_drewN BK.out nq) hb); have c0 : w'.cell? ⟨gb, 0, none⟩ = some (.bool false) := (blk_cell B2.out 0).trans rfl; have c1 : w'.cell? ⟨gb, 1, none⟩ = some (.int .i64 0) := (blk_cell B2.out 1).trans rfl; have f0 := blk_frozen B2.out 0; have f1 := blk_frozen B2.out 1)
   refine bodyPost_ret (v := .agg #[.bool true, .int .i64 (maxT l l.length)]) (by simp [results, Tryd.results50, go_sem, *]) rfl ⟨by rw [HE.out], ?_⟩
   exact below_set (below_set (below_step (pw_below_drewN HB.out nq) hb) GE.out) GE.out
  have e8 : (op == 8) = false := by simpa using h8
  by_cases h9 : op = 9
  ·subst h9
   have hcell := HX.out
   have HE := am (show foldV 9 l = (true, l.getD 0 0) from by rw [foldV, if_neg (by decide), if_neg (by decide), if_neg HH.out.2.2, if_neg (by decide), if_neg (by decide), if_pos rfl])
   go_wp2_with (go_at_call 34; refine (num_known.calls _ _ _ _ rfl).mono ?_; rintro e w' ⟨rfl, hb⟩; have B2 := am (blk_below (blk_drewN BK.out nq) hb); have c0 : w'.cell? ⟨gb, 0, none⟩ = some (.bool false) := (blk_cell B2.out 0).trans rfl; have c1 : w'.cell? ⟨gb, 1, none⟩ = some (.int .i64 0) := (blk_cell B2.out 1).trans rfl; have f0 := blk_frozen B2.out 0; have f1 := blk_frozen B2.out 1)
   refine bodyPost_ret (v := .agg #[.bool true, .int .i64 (l.getD 0 0)]) (by simp [results, Tryd.results50, go_sem, *]) rfl ⟨by rw [HE.out], ?_⟩
   exact below_set (below_set (below_step (pw_below_drewN HB.out nq) hb) GE.out) GE.out
  have e9 : (op == 9) = false := by simpa using h9
  by_cases h10 : op = 10
  ·subst h10
   obtain ⟨ad', hae, hcell⟩ := C_at (0 : Int) R2.out (l.length - 1) (by omega)
   obtain rfl := Option.some.inj hae
   clear hae
   have HE := am (show foldV 10 l = (true, l.getD (l.length - 1) 0) from by rw [foldV, if_neg (by decide), if_neg (by decide), if_neg HH.out.2.2, if_neg (by decide), if_neg (by decide), if_neg (by decide), if_pos rfl])
   go_wp2_with (go_at_call 34; refine (num_known.calls _ _ _ _ rfl).mono ?_; rintro e w' ⟨rfl, hb⟩; have B2 := am (blk_below (blk_drewN BK.out nq) hb); have c0 : w'.cell? ⟨gb, 0, none⟩ = some (.bool false) := (blk_cell B2.out 0).trans rfl; have c1 : w'.cell? ⟨gb, 1, none⟩ = some (.int .i64 0) := (blk_cell B2.out 1).trans rfl; have f0 := blk_frozen B2.out 0; have f1 := blk_frozen B2.out 1)
   refine bodyPost_ret (v := .agg #[.bool true, .int .i64 (l.getD (l.length - 1) 0)]) (by simp [results, Tryd.results50, go_sem, *]) rfl ⟨by rw [HE.out], ?_⟩
   exact below_set (below_set (below_step (pw_below_drewN HB.out nq) hb) GE.out) GE.out
  have e10 : (op == 10) = false := by simpa using h10
  have HE := am (show foldV op l = (false, 0) from by rw [foldV, if_neg HH.out.1, if_neg HH.out.2.1, if_neg HH.out.2.2, if_neg h7, if_neg h8, if_neg h9, if_neg h10])
  go_wp2
  refine bodyPost_ret (v := .agg #[.bool false, .int .i64 (0)]) (by simp [results, Tryd.results50, go_sem, *]) rfl ⟨by rw [HE.out], ?_⟩
  exact below_set (below_set (pw_below_drewN HB.out nq) GE.out) GE.out
set_option maxHeartbeats 2000000 in
set_option maxRecDepth 100000 in
theorem num_Fold (op : Int) (A : Option Addr) (c : Nat) (l : List Int) (w : World) (G : Glob w) (hr : Kd.C (Kd.int .i64) w A l.length l) (hl : l.length ≤ 9223372036854775807) :
  Calls Tryd.prog 50 #[.int .i64 op, .slice A l.length c] w fun e w' => e = .returned (.agg #[.bool (foldV op l).1, .int .i64 (foldV op l).2]) ∧ Below w.heap.size w w' := by
 by_cases h5 : op = 5
 ·subst h5
  have HG := am G
  have HR := am hr
  clear G hr
  have HE := am (show foldV 5 l = (true, (l.length : Int)) from rfl)
  go_enter Tryd.func50, Tryd.ntmps50
  go_wp2_with (first | ((with_reducible refine gate_dst (N := 4) rfl ?_); refine box_event ?hg (N := 4) ?hd (cs := #[.bool false, .int .i64 0]) (t := 50) ?hr ?_; (case hd => rfl); (case hg => rfl); (case hr => first | (go_simp; done) | (go_simp; rfl)); intro gb hgb w2 hbox hb; have HB := am hb; have BK := am hbox; have GE := am (Nat.le_of_eq hgb.symm); have G2 := am (HG.out.below hb); have hg0 := G2.out.unk0; have hg1 := G2.out.unk1; have R2 := am (Kd.C_below HR.out hb); have c0 : w2.cell? ⟨gb, 0, none⟩ = some (.bool false) := (blk_cell BK.out 0).trans rfl; have c1 : w2.cell? ⟨gb, 1, none⟩ = some (.int .i64 0) := (blk_cell BK.out 1).trans rfl; have f0 := blk_frozen BK.out 0; have f1 := blk_frozen BK.out 1; clear hb hbox hgb) | (go_at_call 34; refine (num_known.calls _ _ _ _ rfl).mono ?_; rintro e w' ⟨rfl, hb⟩; have B2 := am (blk_below BK.out hb); clear c0 c1 f0 f1; have c0 : w'.cell? ⟨gb, 0, none⟩ = some (.bool false) := (blk_cell B2.out 0).trans rfl; have c1 : w'.cell? ⟨gb, 1, none⟩ = some (.int .i64 0) := (blk_cell B2.out 1).trans rfl; have f0 := blk_frozen B2.out 0; have f1 := blk_frozen B2.out 1))
  refine bodyPost_ret (v := .agg #[.bool true, .int .i64 l.length]) (by simp [results, Tryd.results50, go_sem, *]) rfl ⟨by rw [HE.out], ?_⟩
  exact below_set (below_set (below_step HB.out hb) GE.out) GE.out
 have e5 : (op == 5) = false := by simpa using h5
 by_cases h6 : op = 6
 ·subst h6
  have HG := am G
  have HR := am hr
  clear G hr
  have HE := am (show foldV 6 l = sumV l from rfl)
  go_enter Tryd.func50, Tryd.ntmps50
  go_wp2_with (first | ((with_reducible refine gate_dst (N := 4) rfl ?_); refine box_event ?hg (N := 4) ?hd (cs := #[.bool false, .int .i64 0]) (t := 50) ?hr ?_; (case hd => rfl); (case hg => rfl); (case hr => first | (go_simp; done) | (go_simp; rfl)); intro gb hgb w2 hbox hb; have HB := am hb; have BK := am hbox; have GE := am (Nat.le_of_eq hgb.symm); have G2 := am (HG.out.below hb); have hg0 := G2.out.unk0; have hg1 := G2.out.unk1; have R2 := am (Kd.C_below HR.out hb); have c0 : w2.cell? ⟨gb, 0, none⟩ = some (.bool false) := (blk_cell BK.out 0).trans rfl; have c1 : w2.cell? ⟨gb, 1, none⟩ = some (.int .i64 0) := (blk_cell BK.out 1).trans rfl; have f0 := blk_frozen BK.out 0; have f1 := blk_frozen BK.out 1; clear hb hbox hgb) | (go_at_call 56; refine (num_sum _ _ _ _ G2.out R2.out hl).mono ?_; rintro e w' ⟨rfl, hb⟩; have B2 := am (blk_below BK.out hb); clear c0 c1 f0 f1; have c0 : w'.cell? ⟨gb, 0, none⟩ = some (.bool false) := (blk_cell B2.out 0).trans rfl; have c1 : w'.cell? ⟨gb, 1, none⟩ = some (.int .i64 0) := (blk_cell B2.out 1).trans rfl; have f0 := blk_frozen B2.out 0; have f1 := blk_frozen B2.out 1))
  refine bodyPost_ret (v := .agg #[.bool (sumV l).1, .int .i64 (sumV l).2]) (by simp [results, Tryd.results50, go_sem, *]) rfl ⟨by rw [HE.out], ?_⟩
  exact below_set (below_set (below_step HB.out hb) GE.out) GE.out
 have e6 : (op == 6) = false := by simpa using h6
 by_cases hp : l.length = 0
 ·have HE := am (show foldV op l = (false, 0) from by rw [foldV, if_neg h5, if_neg h6, if_pos hp])
  have hp0 : ((l.length : Int) == 0) = true := beq_iff_eq.mpr (by omega)
  have HG := am G
  have HR := am hr
  clear G hr hp h5 h6
  go_enter Tryd.func50, Tryd.ntmps50
  go_wp2_with ((with_reducible refine gate_dst (N := 4) rfl ?_); refine box_event ?hg (N := 4) ?hd (cs := #[.bool false, .int .i64 0]) (t := 50) ?hr ?_; (case hd => rfl); (case hg => rfl); (case hr => first | (go_simp; done) | (go_simp; rfl)); intro gb hgb w2 hbox hb; have HB := am hb; have BK := am hbox; have GE := am (Nat.le_of_eq hgb.symm); have G2 := am (HG.out.below hb); have hg0 := G2.out.unk0; have hg1 := G2.out.unk1; have R2 := am (Kd.C_below HR.out hb); have c0 : w2.cell? ⟨gb, 0, none⟩ = some (.bool false) := (blk_cell BK.out 0).trans rfl; have c1 : w2.cell? ⟨gb, 1, none⟩ = some (.int .i64 0) := (blk_cell BK.out 1).trans rfl; have f0 := blk_frozen BK.out 0; have f1 := blk_frozen BK.out 1; clear hb hbox hgb)
  refine bodyPost_ret (v := .agg #[.bool false, .int .i64 0]) (by simp [results, Tryd.results50, go_sem, *]) rfl ⟨by rw [HE.out], ?_⟩
  exact below_set (below_set HB.out GE.out) GE.out
 exact num_Fold_p op A c l w G hr hl e5 e6 (by omega)
end Go.Proofs.YtbhpjpeknooppaaDoor.M
