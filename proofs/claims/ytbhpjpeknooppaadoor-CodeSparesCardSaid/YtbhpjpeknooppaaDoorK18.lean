/- The statement: CodeSpares returns true for every input that reads as data, its arguments read afterwards as before; the listed package variables are tied to the program's text. No condition beyond the form's own reach. -/
import Derived.Test.YtbhpjpeknooppaaDoorK16
import Derived.Test.YtbhpjpeknooppaaDoorK17
import Derived.Below
import Derived.ChangeOld
import Derived.LaidMore
import Derived.OpenShut
import Derived.ProofKit
import Derived.SevenTiedAt
import Derived.ShutString
import Derived.SizedLaws
import Derived.Stop.Joined
import Derived.Test.YtbhpjpeknooppaaDoorCards
import Derived.Test.YtbhpjpeknooppaaDoorTie
namespace Go.Proofs.YtbhpjpeknooppaaDoor.M
open Go.RowKit Go.Proofs.YtbhpjpeknooppaaDoorW.PrintWords Go.Proofs.YtbhpjpeknooppaaDoorW.PrintLast Go.Proofs.YtbhpjpeknooppaaDoorW.PrintMore
open Go.Proofs.YtbhpjpeknooppaaDoor.PCodeSpares
open Go.ChangeShapes Go.WideShapes Go.ChangeAt
set_option linter.unusedVariables false
theorem own : ownKnob Tryd.prog.godebug = none := by kernel_rfl
theorem laidOut : laidOutB Tryd.prog = true := by kernel_rfl
theorem door_met (os : Os) (args : Array Value) : laidMetH Tryd.prog Rows.codeSparesRow.laid ((World.doorLaid Tryd.prog 400 os).forCall (fun _ _ => 0) ⟨#[], args, []⟩).memory :=
 laidMetH_of_parts3 (fuel := 8) (laidMet_of_run' 8 (by kernel_rfl) (by kernel_rfl)) (by kernel_rfl) (by kernel_rfl)
theorem agg_of {cs : Array Value} {l : List Value} (h : cs.toList = l) : cs = l.toArray := by
 rw [← h]
theorem reach_lt : reachBytes = 140737488351232 := rfl
set_option maxRecDepth 100000 in
theorem lifted (os : Os) (started : os.Started) (H : Type) (enc : TypeId × Value → H) :
  ReturnsInHanded {} Tryd.checked os 3 .any (fun w args => (Rows.codeSparesSpec.pre enc Tryd.prog Tryd.f3 [] false w args ∧ laidMetH Tryd.prog Rows.codeSparesRow.laid w) ∧ sizedMet enc Tryd.prog Tryd.f3 (OpenSpec.ofChange Rows.codeSparesSpec) false w args)
   (Rows.codeSparesSpec.post enc Tryd.prog Tryd.f3 false true false false) := by
 refine returnsInHanded_of_change_and (C := Tryd.checked) (X := fun w _ => laidMetH Tryd.prog Rows.codeSparesRow.laid w) (fun _ _ _ hh h => h.of_heap hh) own started (by kernel_rfl) Tryd.func3
  (ChangeSpec.witness_shaped (enc := enc) (C := Tryd.checked) (os := os) (X := fun w _ => laidMetH Tryd.prog Rows.codeSparesRow.laid w) false (World.doorLaid Tryd.prog 400 os)
   #[.agg #[.slice none 0 0], .agg #[.slice none 0 0, .int .i64 0, .int .i64 0, .slice none 0 0, .int .i64 0, .string ByteArray.empty, .slice none 0 0], .slice none 0 0, .agg #[.slice none 0 0, .int .i64 0, .int .i64 0]] 8 rfl
   (World.shaped_of_RefB (by kernel_rfl) (by kernel_rfl)) (by kernel_rfl) (by kernel_rfl) (by kernel_rfl) (door_met os _)) ?_
 intro W base args ds gs before hval0 hW _ hsz0 hL _
 have hsz : (DataW.weightsEach Tryd.prog (Tryd.f3.params.toList ++ Rows.codeSparesSpec.plain.varTypes Tryd.prog) (ds ++ gs)).all (· ≤ reachBytes) = true := hsz0
 have hval : ∀ (j : Nat) t v, Tryd.f3.params[j]? = some t → args[j]? = some v → Value.okWide Tryd.prog W .any base t v := hval0
 have hW' := hW
 obtain ⟨p, q, hA0, hV, rfl, hfz, hnd⟩ := hW
 have hA : DataW.TrodAll enc Tryd.prog W 0 (fun _ => true) true Tryd.f3.params.toList args.toList ds p := hA0
 rw [Tryd.params3] at hA hval hsz
 obtain ⟨v0, vs0, d0, ds0, p0, q0, hargs, rfl, rfl, h0, r0⟩ := trodAll_cons hA
 obtain ⟨v1, vs1, d1, ds1, p1, q1, rfl, rfl, rfl, h1, r1⟩ := trodAll_cons r0
 obtain ⟨v2, vs2, d2, ds2, p2, q2, rfl, rfl, rfl, h2, r2⟩ := trodAll_cons r1
 obtain ⟨v3, vs3, d3, ds3, p3, q3, rfl, rfl, rfl, h3, r3⟩ := trodAll_cons r2
 obtain ⟨rfl, rfl, rfl⟩ := trodAll_nil r3
 obtain rfl : args = #[v0, v1, v2, v3] := by cases args; simp_all
 obtain ⟨rfl, rfl⟩ := trodVars_none hV
 have hwt : ∀ {j t : Nat} {d : DataW H}, ([24, 31, 28, 34] : List Nat)[j]? = some t → [d0, d1, d2, d3][j]? = some d → ∀ n ∈ d.weights Tryd.prog t, n ≤ reachBytes := fun {j t d} ht hd n hn => by
  have := List.all_eq_true.1 hsz _ (DataW.weights_mem_each (ts := [24, 31, 28, 34]) (ds := [d0, d1, d2, d3]) ht hd n hn)
  simpa using this
 have k0 := h0
 have k1 := h1
 have k2 := h2
 have k3 := h3
 have lt0 : ∀ x ∈ p0, x.block < W.heap.size := by obtain ⟨m, hm⟩ := k0; exact DataW.trod_lt m _ _ _ hm
 have lt1 : ∀ x ∈ p1, x.block < W.heap.size := by obtain ⟨m, hm⟩ := k1; exact DataW.trod_lt m _ _ _ hm
 have lt2 : ∀ x ∈ p2, x.block < W.heap.size := by obtain ⟨m, hm⟩ := k2; exact DataW.trod_lt m _ _ _ hm
 have lt3 : ∀ x ∈ p3, x.block < W.heap.size := by obtain ⟨m, hm⟩ := k3; exact DataW.trod_lt m _ _ _ hm
 obtain ⟨c0, rfl, _⟩ := okWide_struct Tryd.underlying24 (hval 0 24 v0 rfl rfl)
 obtain ⟨c1, rfl, _⟩ := okWide_struct Tryd.underlying31 (hval 1 31 v1 rfl rfl)
 obtain ⟨a2, len2, cap2, rfl⟩ := okWide_slice Tryd.underlying28 (hval 2 28 v2 rfl rfl)
 obtain ⟨c3, rfl, _⟩ := okWide_struct Tryd.underlying34 (hval 3 34 v3 rfl rfl)
 obtain ⟨f0, e0⟩ := h0
 obtain ⟨f1, e1⟩ := h1
 obtain ⟨f2, e2⟩ := h2
 obtain ⟨f3, e3⟩ := h3
 obtain ⟨types, ⟨T0, tc, hc0, htc, hty⟩, hb0, _⟩ := o24 e0 (hwt (j := 0) rfl rfl)
 obtain ⟨⟨its, q1, q2, wh, q4, q5, ret⟩, hK1, hb1, hb2, hb3, hb4⟩ := o31 e1 (hwt (j := 1) rfl rfl)
 obtain ⟨_, _, hc1, ⟨Q0, c0', rfl, hq1, hq2⟩, _, _, rfl, rfl, _, _, rfl, rfl, _, _, rfl, ⟨Q3, c3', rfl, hq3, hq4⟩, _, _, rfl, rfl, _, _, rfl, rfl, ⟨Q6, c6, rfl, hq5, hq6⟩⟩ := hK1
 obtain ⟨t, ⟨A, c, hc2, htl, ht⟩, hb5, _⟩ := o28 e2 (hwt (j := 2) rfl rfl)
 obtain ⟨⟨L, each, at_⟩, hK3, hb6, hwf⟩ := o34 e3 (hwt (j := 3) rfl rfl)
 obtain ⟨_, _, hc3, ⟨AL, cL, rfl, hl1, hl2⟩, _, _, rfl, rfl, rfl⟩ := hK3
 obtain rfl := agg_of hc0
 obtain rfl := agg_of hc1
 obtain rfl := agg_of hc3
 obtain ⟨rfl, rfl, rfl⟩ : a2 = A ∧ len2 = t.length ∧ cap2 = c := by
  have h_ : ([.slice a2 len2 cap2] : List Value) = [.slice A t.length c] := hc2
  injection h_ with h_ _
  injection h_ with x1 x2 x3
  exact ⟨x1, x2, x3⟩
 obtain ⟨G, GK⟩ := glob_of hL
 rw [reach_lt] at hb0 hb1 hb2 hb3 hb5 hb6
 have hb4' : ∀ l ∈ ret, l.length < 17592186044416 := fun l hl => by
  have := hb4 l hl
  rw [reach_lt] at this
  omega
 obtain ⟨hat, hat2⟩ := bounds_i64 hwf
 simp only at hb1 hb2 hb3 hb6 hat hat2
 have hcall := code_spares Q0 c0' its q1 q2 Q3 c3' wh q4 q5 Q6 c6 ret W G GK ⟨hq2, hq1, hq4, hq3, hq6, hq5, by omega⟩ (by omega) (by omega) hb4' T0 tc types hty htc (by omega) a2 cap2 t ht htl (by omega) AL cL L each at_ hl2 (by omega) hat hat2
 refine (show Calls Tryd.prog 3 _ W _ from hcall).mono fun e W' ⟨he, bel⟩ => ?_
 subst he
 exact ⟨_, rfl, _, _, _, [], _, [], hW', trodAll_mk1 (shut_bool Tryd.underlying4 _), trodAll_cons_mk (Below.trod laidOut (by kernel_rfl) (of_decide_eq_true (by kernel_rfl)) k0 bel lt0) (trodAll_cons_mk (Below.trod laidOut (by kernel_rfl) (of_decide_eq_true (by kernel_rfl)) k1 bel lt1) (trodAll_cons_mk (Below.trod laidOut (by kernel_rfl) (of_decide_eq_true (by kernel_rfl)) k2 bel lt2) (trodAll_cons_mk (Below.trod laidOut (by kernel_rfl) (of_decide_eq_true (by kernel_rfl)) k3 bel lt3) trodAll_mk0))), rfl, bel.frame _, fun h => by cases h⟩
theorem row_holds : Rows.CodeSparesSaid :=
 OpenClaim.holds_of_wide 3 Tryd.f3 rfl rfl rfl rfl rfl rfl rfl ⟨rfl, rfl, rfl, rfl, rfl⟩ rfl rfl rfl rfl rfl (by kernel_rfl) Tryd.func3 (by kernel_rfl)
  (of_decide_eq_true (by kernel_rfl)) (by unfold Func.isWrapper; first | (rw [if_pos (by decide +kernel)]; kernel_rfl) | (rw [if_neg (by decide +kernel)]; exact ⟨rfl, rfl⟩))
  (fun os started H enc _ => lifted os started H enc)
end Go.Proofs.YtbhpjpeknooppaaDoor.M
namespace Go.Proofs.YtbhpjpeknooppaaDoor
theorem codeSpares_card_holds : Rows.CodeSparesCardSaid :=
 Claim7.holds_tied_plain_at .later [] [.data, .data, .data, .data, .data, .data, .data, .data] true (true, "1acf8d9597252eefbf2eaa9e087b6b87e2fcfb96f6683f99409e45a264a4a3cb") false
  M.row_holds (fun _ h => by cases h) (by kernel_rfl) (fun _ h => by cases h) codeSpares_row_tie rfl ⟨rfl, rfl⟩ (by kernel_rfl) rfl
  (fun f fn hf hfn => by
   obtain rfl : f = 3 := Option.some.inj ((show Tryd.prog.funcNamed "sluice/sluicelaw7.CodeSpares" = some 3 by kernel_rfl).symm.trans hf) |>.symm
   obtain rfl : fn = Tryd.f3 := (Option.some.inj (Tryd.func3.symm.trans hfn)).symm
   exact ⟨by kernel_rfl, fun j t ht => by
    rw [Tryd.params3] at ht
    have hm : t ∈ [24, 31, 28, 34] := by simpa using Array.mem_of_getElem? ht
    have hall : ([24, 31, 28, 34].all fun u => !Tryd.prog.wantsStandIn u) = true := by kernel_rfl
    exact (show Tryd.prog.wantsStandIn t = false by simpa using List.all_eq_true.1 hall t hm)⟩)
  (by kernel_rfl)
#print axioms codeSpares_card_holds
end Go.Proofs.YtbhpjpeknooppaaDoor
