/- The contract of code.Run. Conditions: the program, its columns and the lists are read; the package variables read as laid. -/
import Derived.Test.YtbhpjpeknooppaaDoorK06
import Derived.BigQuiet
import Derived.Deep.QuietTactic
import Derived.Deep.RegionWith
import Derived.IntWalk
import Derived.LoopTactic
import Derived.WalkMore
namespace Go.Proofs.YtbhpjpeknooppaaDoor.M
open Go.RowKit Go.Proofs.YtbhpjpeknooppaaDoorW.PrintWords Go.Proofs.YtbhpjpeknooppaaDoorW.PrintLast Go.Proofs.YtbhpjpeknooppaaDoorW.PrintMore
open Go.Proofs.YtbhpjpeknooppaaDoor.PCodeSpares
set_option linter.unusedVariables false
set_option linter.unusedSimpArgs false
structure S50 where
 f0 : Bool
 f1 : Int
def z50 : S50 := ⟨false, (0 : Int)⟩
def k50 : Kd S50 := Kd.iso (Kd.pair Kd.bool (Kd.int .i64)) (fun x : S50 => (x.f0, x.f1))
theorem k50_open {w : World} {x : S50} {cs : List Value} (h : k50.K w x cs) : cs = [.bool x.f0, .int .i64 x.f1] := by
 obtain ⟨_, _, rfl, rfl, rfl⟩ := h
 exact rfl
theorem k50_mkM (w : World) (base : Nat) (ok : Nat → Prop) (x : S50)  : k50.M w base ok x [.bool x.f0, .int .i64 x.f1] := ⟨[.bool x.f0], [.int .i64 x.f1], rfl, rfl, rfl⟩
def rd_T50 (xs : List S50) (i : Int) : S50 := xs.getD i.toNat z50
theorem at_T50 {w : World} {A : Option Addr} {n : Nat} {xs : List S50} (h : Kd.C k50 w A n xs) (i : Int) (h0 : 0 ≤ i) (h1 : i < n) : ∃ ad , A = some ad ∧ w.cell? (ad.add (i.toNat * 2)) = some (.bool (rd_T50 xs i).f0) ∧ w.cell? ⟨(ad.add (i.toNat * 2)).block, (ad.add (i.toNat * 2)).off + 1, none⟩ = some (.int .i64 (rd_T50 xs i).f1) := by
 obtain ⟨ad, c, e, _, hK, hc0⟩ := Kd.C_get h z50 i h0 h1
 have hc : ∀ j u, c[j]? = some u → w.cell? (ad.add (i.toNat * 2 + j)) = some u := hc0
 obtain rfl := k50_open hK
 exact ⟨ad, e, hc 0 _ rfl, by rw [← add_field _ _ 1 (by omega)]; exact hc 1 _ rfl⟩
theorem info50 : (Tryd.prog.info? 50).map (fun i => (i.zero, i.size, i.bytes)) = some (some (.agg #[.bool false, .int .i64 0]), 2, 16) := by kernel_rfl
def stV (v : Bool × Int) : S50 := ⟨v.1, v.2⟩
def topV (xs : List S50) (d : Nat) : S50 := xs.getD (xs.length - d) z50
def colV (cols : List (List Int)) (i : S47) : List Int := if i.f0 = 4 then [] else rd_L8 cols i.f2
def stepV (code : List S47) (cols : List (List Int)) (L : List (List S73)) (each at_ : Int) (k : Nat) (xs : List S50) : Option (Nat × List S50) :=
 let i := rd_T47 code (k : Int)
 if i.f0 < 0 ∨ 27 ≤ i.f0 then none
 else if tOperands.getD i.f0.toNat 0 < 0 ∨ (xs.length : Int) < tOperands.getD i.f0.toNat 0 then none
 else if i.f0 = 1 then some (k + 1, xs ++ [⟨true, i.f3⟩])
 else if i.f0 ≤ 9 then (if i.f0 ≠ 4 ∧ (i.f2 < 0 ∨ (cols.length : Int) ≤ i.f2) then none else some (k + 1, xs ++ [stV (mentionV i (colV cols i) L each at_)]))
 else if i.f0 = 10 then some (k + 1, xs.set (xs.length - 1) (stV (negV (topV xs 1).f0 (topV xs 1).f1)))
 else if i.f0 = 11 then some (k + 1, xs.set (xs.length - 1) (stV (notV (topV xs 1).f0 (topV xs 1).f1)))
 else if 25 ≤ i.f0 then (if i.f4 ≤ (k : Int) ∨ (code.length : Int) < i.f4 then none else if (topV xs 1).f0 = true ∧ (((topV xs 1).f1 != 0) == (i.f0 == 26)) = true then some (i.f4.toNat, xs) else some (k + 1, xs))
 else some (k + 1, (xs.set (xs.length - 2) (stV (applyV (wrap64 (14 + wrap64 (i.f0 - 12))) (topV xs 2).f0 (topV xs 2).f1 (topV xs 1).f0 (topV xs 1).f1))).take (xs.length - 1))
def endV (xs : List S50) : (Bool × Int) × Int := if xs.length = 1 then (((topV xs 1).f0, (topV xs 1).f1), 0) else ((false, 0), 70)
def runR (code : List S47) (cols : List (List Int)) (L : List (List S73)) (each at_ : Int) : Nat → Nat → List S50 → (Bool × Int) × Int
 | 0, _, xs => endV xs
 | d + 1, k, xs => if k < code.length then match stepV code cols L each at_ k xs with
  | none => ((false, 0), 70)
  | some p => runR code cols L each at_ d p.1 p.2
  else endV xs
def runV (code : List S47) (cols : List (List Int)) (L : List (List S73)) (each at_ : Int) : (Bool × Int) × Int := runR code cols L each at_ (code.length + 1) 0 []
theorem runR_step {code : List S47} {cols : List (List Int)} {L : List (List S73)} {each at_ : Int} {d k : Nat} {xs : List S50} (h : k < code.length) (hd : code.length < d + k) :
  ∃ d', d = d' + 1 ∧ runR code cols L each at_ d k xs = match stepV code cols L each at_ k xs with
  | none => ((false, 0), 70)
  | some p => runR code cols L each at_ d' p.1 p.2 := by
 obtain ⟨d', rfl⟩ : ∃ d', d = d' + 1 := ⟨d - 1, by omega⟩
 exact ⟨d', rfl, by rw [runR, if_pos h]⟩
theorem runR_end {code : List S47} {cols : List (List Int)} {L : List (List S73)} {each at_ : Int} {d k : Nat} {xs : List S50} (h : ¬ k < code.length) : runR code cols L each at_ d k xs = endV xs := by
 cases d with
 | zero => rfl
 | succ d => rw [runR, if_neg h]
theorem stk_at {W : World} {base : Nat} {ok : Nat → Prop} {gs n cap : Nat} {xs : List S50} (h : k50.R 50 W base ok (.slice (some ⟨gs, 0, none⟩) n cap) xs) (i : Nat) (hi : i < n) :
  W.cell? ⟨gs, i * 2, none⟩ = some (.bool (xs.getD i z50).f0) ∧ W.cell? ⟨gs, i * 2 + 1, none⟩ = some (.int .i64 (xs.getD i z50).f1) ∧ W.frozen? ⟨gs, i * 2, none⟩ = false ∧ W.frozen? ⟨gs, i * 2 + 1, none⟩ = false := by
 obtain ⟨hn, _, hC⟩ := Kd.R_reads' h
 obtain ⟨ad, he, h0, h1⟩ := at_T50 hC (i : Int) (by omega) (by omega)
 obtain rfl := Option.some.inj he
 obtain ⟨cells, hb⟩ := Kd.R_typed h gs rfl
 rw [Int.toNat_natCast, add_plain] at h0 h1
 exact ⟨h0, h1, blk_frozen hb _, blk_frozen hb _⟩
theorem stk_form {W : World} {base : Nat} {ok : Nat → Prop} {v : Value} {xs : List S50} (h : k50.R 50 W base ok v xs) (m : Nat) (hm : xs.length = m + 1) : ∃ gs cap, v = .slice (some ⟨gs, 0, none⟩) (m + 1) cap := by
 obtain ⟨g, cap, he, _⟩ := Kd.R_form h (by omega)
 exact ⟨g, cap, by rw [he, hm]⟩
theorem stk_at2 {W : World} {base : Nat} {ok : Nat → Prop} {gs n cap : Nat} {xs : List S50} (h : k50.R 50 W base ok (.slice (some ⟨gs, 0, none⟩) n cap) xs) (i : Nat) (hi : i < n) (b : Bool) (x : Int) (hx : xs.getD i z50 = ⟨b, x⟩) :
  W.cell? ⟨gs, i * 2, none⟩ = some (.bool b) ∧ W.cell? ⟨gs, i * 2 + 1, none⟩ = some (.int .i64 x) := by
 obtain ⟨h0, h1, _⟩ := stk_at h i hi
 rw [hx] at h0 h1
 exact ⟨h0, h1⟩
theorem tOp0 (i : Int) (h0 : 1 ≤ i) (h1 : i ≤ 9) : tOperands.getD i.toNat 0 = 0 := by
 obtain rfl | rfl | rfl | rfl | rfl | rfl | rfl | rfl | rfl : i = 1 ∨ i = 2 ∨ i = 3 ∨ i = 4 ∨ i = 5 ∨ i = 6 ∨ i = 7 ∨ i = 8 ∨ i = 9 := by omega
 all_goals rfl
theorem tOp1 (i : Int) (h : i = 10 ∨ i = 11 ∨ i = 25 ∨ i = 26) : tOperands.getD i.toNat 0 = 1 := by
 obtain rfl | rfl | rfl | rfl := h
 all_goals rfl
theorem tOp2 (i : Int) (h0 : 12 ≤ i) (h1 : i ≤ 24) : tOperands.getD i.toNat 0 = 2 := by
 obtain rfl | rfl | rfl | rfl | rfl | rfl | rfl | rfl | rfl | rfl | rfl | rfl | rfl : i = 12 ∨ i = 13 ∨ i = 14 ∨ i = 15 ∨ i = 16 ∨ i = 17 ∨ i = 18 ∨ i = 19 ∨ i = 20 ∨ i = 21 ∨ i = 22 ∨ i = 23 ∨ i = 24 := by omega
 all_goals rfl
section
variable {code : List S47} {cols : List (List Int)} {L : List (List S73)} {each at_ : Int} {k : Nat} {xs : List S50} {i0 i1 i2 i3 i4 : Int} (hi : (⟨i0, i1, i2, i3, i4⟩ : S47) = rd_T47 code (k : Int))
include hi
theorem s_out (h : i0 < 0 ∨ 27 ≤ i0) : stepV code cols L each at_ k xs = none := by
 simp only [stepV, ← hi]
 rw [if_pos h]
theorem s_few (h0 : 0 ≤ i0) (h1 : i0 < 27) (h : tOperands.getD i0.toNat 0 < 0 ∨ (xs.length : Int) < tOperands.getD i0.toNat 0) : stepV code cols L each at_ k xs = none := by
 simp only [stepV, ← hi]
 rw [if_neg (by omega), if_pos h]
theorem s_push (h : i0 = 1) : stepV code cols L each at_ k xs = some (k + 1, xs ++ [⟨true, i3⟩]) := by
 subst h
 simp only [stepV, ← hi]
 rw [if_neg (by omega), if_neg (by rw [tOp0 1 (by omega) (by omega)]; omega), if_pos trivial]
theorem s_col (h0 : 2 ≤ i0) (h1 : i0 ≤ 9) (h : i0 ≠ 4 ∧ (i2 < 0 ∨ (cols.length : Int) ≤ i2)) : stepV code cols L each at_ k xs = none := by
 simp only [stepV, ← hi]
 rw [if_neg (by omega), if_neg (by rw [tOp0 i0 (by omega) (by omega)]; omega), if_neg (by omega), if_pos h1, if_pos h]
theorem s_ment (h0 : 2 ≤ i0) (h1 : i0 ≤ 9) (h : ¬ (i0 ≠ 4 ∧ (i2 < 0 ∨ (cols.length : Int) ≤ i2))) : stepV code cols L each at_ k xs = some (k + 1, xs ++ [stV (mentionV ⟨i0, i1, i2, i3, i4⟩ (colV cols ⟨i0, i1, i2, i3, i4⟩) L each at_)]) := by
 simp only [stepV, ← hi]
 rw [if_neg (by omega), if_neg (by rw [tOp0 i0 (by omega) (by omega)]; omega), if_neg (by omega), if_pos h1, if_neg h]
theorem s_neg {m : Nat} {b : Bool} {n : Int} (h : i0 = 10) (hm : xs.length = m + 1) (hx : xs.getD m z50 = ⟨b, n⟩) : stepV code cols L each at_ k xs = some (k + 1, xs.set m (stV (negV b n))) := by
 subst h
 simp only [stepV, ← hi]
 rw [if_neg (by omega), if_neg (by rw [tOp1 10 (by omega)]; omega), if_neg (by omega), if_neg (by omega), if_pos trivial]
 simp only [topV, hm, Nat.add_sub_cancel, hx]
theorem s_not {m : Nat} {b : Bool} {n : Int} (h : i0 = 11) (hm : xs.length = m + 1) (hx : xs.getD m z50 = ⟨b, n⟩) : stepV code cols L each at_ k xs = some (k + 1, xs.set m (stV (notV b n))) := by
 subst h
 simp only [stepV, ← hi]
 rw [if_neg (by omega), if_neg (by rw [tOp1 11 (by omega)]; omega), if_neg (by omega), if_neg (by omega), if_neg (by omega), if_pos trivial]
 simp only [topV, hm, Nat.add_sub_cancel, hx]
theorem s_jbad {m : Nat} (h : i0 = 25 ∨ i0 = 26) (hm : xs.length = m + 1) (hb : i4 ≤ (k : Int) ∨ (code.length : Int) < i4) : stepV code cols L each at_ k xs = none := by
 simp only [stepV, ← hi]
 rw [if_neg (by omega), if_neg (by rw [tOp1 i0 (by omega)]; omega), if_neg (by omega), if_neg (by omega), if_neg (by omega), if_neg (by omega), if_pos (by omega), if_pos hb]
theorem s_jtake {m : Nat} {b : Bool} {n : Int} (h : i0 = 25 ∨ i0 = 26) (hm : xs.length = m + 1) (hb : ¬ (i4 ≤ (k : Int) ∨ (code.length : Int) < i4)) (hx : xs.getD m z50 = ⟨b, n⟩) (ht : b = true ∧ ((n != 0) == (i0 == 26)) = true) : stepV code cols L each at_ k xs = some (i4.toNat, xs) := by
 simp only [stepV, ← hi]
 rw [if_neg (by omega), if_neg (by rw [tOp1 i0 (by omega)]; omega), if_neg (by omega), if_neg (by omega), if_neg (by omega), if_neg (by omega), if_pos (by omega), if_neg hb]
 simp only [topV, hm, Nat.add_sub_cancel, hx]
 rw [if_pos ht]
theorem s_jstay {m : Nat} {b : Bool} {n : Int} (h : i0 = 25 ∨ i0 = 26) (hm : xs.length = m + 1) (hb : ¬ (i4 ≤ (k : Int) ∨ (code.length : Int) < i4)) (hx : xs.getD m z50 = ⟨b, n⟩) (ht : ¬ (b = true ∧ ((n != 0) == (i0 == 26)) = true)) : stepV code cols L each at_ k xs = some (k + 1, xs) := by
 simp only [stepV, ← hi]
 rw [if_neg (by omega), if_neg (by rw [tOp1 i0 (by omega)]; omega), if_neg (by omega), if_neg (by omega), if_neg (by omega), if_neg (by omega), if_pos (by omega), if_neg hb]
 simp only [topV, hm, Nat.add_sub_cancel, hx]
 rw [if_neg ht]
theorem s_app {m : Nat} {b b' : Bool} {n n' : Int} (h0 : 12 ≤ i0) (h1 : i0 ≤ 24) (hm : xs.length = m + 1 + 1) (hx : xs.getD m z50 = ⟨b, n⟩) (hx' : xs.getD (m + 1) z50 = ⟨b', n'⟩) : stepV code cols L each at_ k xs = some (k + 1, (xs.set m (stV (applyV (wrap64 (14 + wrap64 (i0 - 12))) b n b' n'))).take (m + 1)) := by
 simp only [stepV, ← hi]
 rw [if_neg (by omega), if_neg (by rw [tOp2 i0 h0 h1]; omega), if_neg (by omega), if_neg (by omega), if_neg (by omega), if_neg (by omega), if_neg (by omega)]
 simp only [topV, hm, Nat.add_sub_cancel, show m + 1 + 1 - 2 = m by omega, hx, hx']
end
end Go.Proofs.YtbhpjpeknooppaaDoor.M
namespace Go.Proofs.YtbhpjpeknooppaaDoor.M
open Go.RowKit Go.Proofs.YtbhpjpeknooppaaDoorW.PrintWords Go.Proofs.YtbhpjpeknooppaaDoorW.PrintLast Go.Proofs.YtbhpjpeknooppaaDoorW.PrintMore
open Go.Proofs.YtbhpjpeknooppaaDoor.PCodeSpares
set_option linter.unusedVariables false
set_option linter.unusedSimpArgs false
theorem seg2_ {W : World} {g o : Nat} {b : Bool} {n : Int} (h0 : W.cell? ⟨g, o, none⟩ = some (.bool b)) (h1 : W.cell? ⟨g, o + 1, none⟩ = some (.int .i64 n)) : ∀ j u, ([.bool b, .int .i64 n] : List Value)[j]? = some u → W.cell? ⟨g, o + j, none⟩ = some u := by
 intro j u hu
 match j, hu with
 | 0, hu => cases hu; exact h0
 | 1, hu => cases hu; exact h1
 | j + 2, hu => simp at hu
theorem mu_ {len k : Nat} {x : Int} (h : k < len) (hx : (k : Int) < x) : len - (intOf (.int .i64 x)).toNat < len - (intOf (.int .i64 (k : Int))).toNat := by
 simp only [intOf, Int.toNat_natCast]
 omega
set_option maxHeartbeats 0 in
set_option maxRecDepth 100000 in
theorem code_Run_t (A : Option Addr) (c : Nat) (code : List S47) (B : Option Addr) (c2 : Nat) (cols : List (List Int)) (AL : Option Addr) (cL : Nat) (L : List (List S73)) (each at_ : Int) (w : World) (G : Glob w)
  (hcode : Kd.C k47 w A code.length code) (hcols : Kd.C (Kd.slice 3 (Kd.int .i64)) w B cols.length cols) (hL : Kd.C (Kd.slice 73 k73) w AL L.length L) (hbd : ∀ l ∈ L, l.length ≤ 2147483647)
  (hat : -9223372036854775808 ≤ at_) (hat2 : at_ ≤ 9223372036854775807) (hsz : code.length ≤ 4398046511104) :
  Calls Tryd.prog 10 #[.agg #[.slice A code.length c, .slice B cols.length c2], .agg #[.slice AL L.length cL, .int .i64 each, .int .i64 at_]] w fun e w' => e = .returned (.tuple #[.agg #[.bool (runV code cols L each at_).1.1, .int .i64 (runV code cols L each at_).1.2], .int .i64 (runV code cols L each at_).2]) ∧ Below w.heap.size w w' := by
 have HG := am G
 have HP := am hcode
 have HQ := am hcols
 have HL := am hL
 have HD := am hbd
 have HB := am (Below.refl w.heap.size w)
 have HS := am hsz
 clear G hcode hcols hL hbd hsz
 go_enter Tryd.func10, Tryd.ntmps10
 go_wp2_with (first | ((with_reducible refine gate_dst (N := 2) rfl ?_); refine box_event ?hg (N := 2) ?hd (cs := #[.slice A code.length c, .slice B cols.length c2]) (t := 42) ?hr ?_; (case hd => rfl); (case hg => rfl); (case hr => first | (go_simp; done) | (go_simp; rfl)); intro g2 hg_ W1 hbox hb; have GE_g2 := ge1 hg_ HB; replace HB := bs HB hb; have BK_g2 := am hbox; have c_g2 := cf2 BK_g2; clear hb hbox hg_) | ((with_reducible refine gate_dst (N := 3) rfl ?_); refine box_event ?hg (N := 3) ?hd (cs := #[.slice AL L.length cL, .int .i64 each, .int .i64 at_]) (t := 34) ?hr ?_; (case hd => rfl); (case hg => rfl); (case hr => first | (go_simp; done) | (go_simp; rfl)); intro g3 hg_ W2 hbox hb; have GE_g3 := ge1 hg_ HB; have NE_g3_g2 := ne1 hg_ BK_g2; have NE_g2_g3 := ne2 NE_g3_g2; replace HB := bs HB hb; (try clear c_g2); replace BK_g2 := bb BK_g2 hb; have c_g2 := cf2 BK_g2; have BK_g3 := am hbox; have c_g3 := cf3 BK_g3; clear hb hbox hg_) | ((with_reducible refine gate_dst (N := 4) rfl ?_); refine box_event ?hg (N := 4) ?hd (cs := #[.bool false, .int .i64 0]) (t := 50) ?hr ?_; (case hd => rfl); (case hg => rfl); (case hr => first | (go_simp; done) | (go_simp; rfl)); intro g4 hg_ W3 hbox hb; have GE_g4 := ge1 hg_ HB; have NE_g4_g2 := ne1 hg_ BK_g2; have NE_g2_g4 := ne2 NE_g4_g2; have NE_g4_g3 := ne1 hg_ BK_g3; have NE_g3_g4 := ne2 NE_g4_g3; replace HB := bs HB hb; (try clear c_g2); replace BK_g2 := bb BK_g2 hb; have c_g2 := cf2 BK_g2; (try clear c_g3); replace BK_g3 := bb BK_g3 hb; have c_g3 := cf3 BK_g3; have BK_g4 := am hbox; have c_g4 := cf2 BK_g4; clear hb hbox hg_))
 go_step3
 go_wp2
 go_step3
 go_wp2
 clear c_g2 c_g3 c_g4
 go_loopw [6, 7] (fun v i w' => ∃ (k d : Nat) (xs : List S50), i = .int .i64 k ∧ k ≤ code.length ∧ Aside0 (code.length < d + k) ∧ Aside0 (runR code cols L each at_ d k xs = runV code cols L each at_) ∧ Aside0 (Kd.R k50 50 w' w.heap.size (fun q => q ≠ g4) v xs) ∧ Aside0 (xs.length ≤ k) ∧ Aside0 (Below w.heap.size w w') ∧ Aside0 (w'.heap[g2]? = some (.cells #[.slice A code.length c, .slice B cols.length c2] 42 (0, 0))) ∧ Aside0 (w'.heap[g3]? = some (.cells #[.slice AL L.length cL, .int .i64 each, .int .i64 at_] 34 (0, 0))) ∧ Aside0 (w'.heap[g4]? = some (.cells #[.bool false, .int .i64 0] 50 (0, 0)))) (fun _ i _ => code.length - (intOf i).toNat)
 case atStart => exact ⟨0, code.length + 1, [], rfl, Nat.zero_le _, ⟨by omega⟩, ⟨rfl⟩, ⟨Kd.R_nil _ _ _ _ _⟩, ⟨Nat.zero_le _⟩, HB, BK_g2, BK_g3, BK_g4⟩
 case round =>
  clear HB BK_g2 BK_g3 BK_g4
  obtain ⟨k, d, xs, rfl, hk, HDK, HR, HO, HX, HB, BK_g2, BK_g3, BK_g4⟩ := hrel
  have HK := am hk
  clear hk
  have c_g2 := cf2 BK_g2
  have c_g3 := cf3 BK_g3
  have c_g4 := cf2 BK_g4
  by_cases hlt : k < code.length
  ·obtain ⟨d', rfl, hstep⟩ := runR_step (cols := cols) (L := L) (each := each) (at_ := at_) (xs := xs) hlt HDK.out
   have HT := am (HR.out.symm.trans hstep)
   clear hstep HR
   obtain ⟨ad, rfl, b0, b1, b2, b3, b4⟩ := at_T47 HP.out (k : Int) (by omega) (by omega)
   rw [Int.toNat_natCast] at b0 b1 b2 b3 b4
   obtain ⟨ins, hins⟩ : ∃ i, i = rd_T47 code (k : Int) := ⟨_, rfl⟩
   rw [← hins] at b0 b1 b2 b3 b4
   have HI := am hins
   clear hins
   obtain ⟨i0, i1, i2, i3, i4⟩ := ins
   have p0 := pw_cell_below HB.out b0
   have p1 := pw_cell_below HB.out b1
   have p2 := pw_cell_below HB.out b2
   have p3 := pw_cell_below HB.out b3
   have p4 := pw_cell_below HB.out b4
   have HP0 := am b0
   clear b0 b1 b2 b3 b4
   have eK : wrap64 ((k : Int) + 1) = (k : Int) + 1 := IntWalk.wrap64_in _ (by have := HS.out; omega)
   by_cases hA : i0 < 0
   ·have eA : decide (i0 < 0) = true := by simpa using hA
    as_aux_lemma =>
     have HE := am (show runV code cols L each at_ = ((false, 0), 70) from by rw [HT.out, s_out HI.out (.inl hA)])
     go_wp2_with (first | ((with_reducible refine gate_dst (N := 8) rfl ?_); refine box_event ?hg (N := 8) ?hd (cs := #[.int .i64 0, .int .i64 0, .int .i64 0, .int .i64 0, .int .i64 0]) (t := 47) ?hr ?_; (case hd => rfl); (case hg => rfl); (case hr => first | (go_simp; done) | (go_simp; rfl)); intro g8 hg_ W4 hbox hb; have GE_g8 := ge1 hg_ HB; have NE_g8_g2 := ne1 hg_ BK_g2; have NE_g2_g8 := ne2 NE_g8_g2; have NE_g8_g3 := ne1 hg_ BK_g3; have NE_g3_g8 := ne2 NE_g8_g3; have NE_g8_g4 := ne1 hg_ BK_g4; have NE_g4_g8 := ne2 NE_g8_g4; replace HB := bs HB hb; (try clear c_g2); replace BK_g2 := bb BK_g2 hb; have c_g2 := cf2 BK_g2; (try clear c_g3); replace BK_g3 := bb BK_g3 hb; have c_g3 := cf3 BK_g3; (try clear c_g4); replace BK_g4 := bb BK_g4 hb; have c_g4 := cf2 BK_g4; replace HO := bR HO hb; have BK_g8 := am hbox; have c_g8 := cf5 BK_g8; clear hb hbox hg_) | ((with_reducible refine gate_store (t := 47) (p := 8) rfl ?_); refine store_event (t := 47) (p := 8) (v := ?vo_W5_1) (w1 := ?w1_W5_2) ?hg ?ho ?hn ?hr ?_; (case ho => rfl); (case hg => rfl); (case hn => rfl); (case hr => first | (go_simp; done) | (go_simp; rfl)); intro W5 hw; have hk := kb5 hw; replace HO := am (Kd.R_mono (Kd.R_keep (Kd.R_types HO.out BK_g8.out (by decide)) hk (fun _ h_ => h_.2)) (fun _ h_ => h_.1)); replace HB := sb5 HB GE_g8 hw; (try clear c_g2); replace BK_g2 := bk BK_g2 hk NE_g2_g8; have c_g2 := cf2 BK_g2; (try clear c_g3); replace BK_g3 := bk BK_g3 hk NE_g3_g8; have c_g3 := cf3 BK_g3; (try clear c_g4); replace BK_g4 := bk BK_g4 hk NE_g4_g8; have c_g4 := cf2 BK_g4; (try clear c_g8); replace BK_g8 := bp5 BK_g8 hw; have c_g8 := cf5 BK_g8; clear hk hw))
     try rw [Exit.noGoto_ret]
     refine bodyPost_ret (v := .tuple #[.agg #[.bool false, .int .i64 0], .int .i64 70]) (by simp [results, Tryd.results10, go_sem, *]) rfl ⟨by rw [HE.out], ?_⟩
     exact below_set (below_set HB.out GE_g4.out) GE_g4.out
   have n0 : 0 ≤ i0 := by omega
   have eA : decide (i0 < 0) = false := by simpa using n0
   clear hA
   by_cases hB : 27 ≤ i0
   ·have eB : decide (27 ≤ i0) = true := by simpa using hB
    as_aux_lemma =>
     have HE := am (show runV code cols L each at_ = ((false, 0), 70) from by rw [HT.out, s_out HI.out (.inr hB)])
     go_wp2_with (first | ((with_reducible refine gate_dst (N := 8) rfl ?_); refine box_event ?hg (N := 8) ?hd (cs := #[.int .i64 0, .int .i64 0, .int .i64 0, .int .i64 0, .int .i64 0]) (t := 47) ?hr ?_; (case hd => rfl); (case hg => rfl); (case hr => first | (go_simp; done) | (go_simp; rfl)); intro g8 hg_ W4 hbox hb; have GE_g8 := ge1 hg_ HB; have NE_g8_g2 := ne1 hg_ BK_g2; have NE_g2_g8 := ne2 NE_g8_g2; have NE_g8_g3 := ne1 hg_ BK_g3; have NE_g3_g8 := ne2 NE_g8_g3; have NE_g8_g4 := ne1 hg_ BK_g4; have NE_g4_g8 := ne2 NE_g8_g4; replace HB := bs HB hb; (try clear c_g2); replace BK_g2 := bb BK_g2 hb; have c_g2 := cf2 BK_g2; (try clear c_g3); replace BK_g3 := bb BK_g3 hb; have c_g3 := cf3 BK_g3; (try clear c_g4); replace BK_g4 := bb BK_g4 hb; have c_g4 := cf2 BK_g4; replace HO := bR HO hb; have BK_g8 := am hbox; have c_g8 := cf5 BK_g8; clear hb hbox hg_) | ((with_reducible refine gate_store (t := 47) (p := 8) rfl ?_); refine store_event (t := 47) (p := 8) (v := ?vo_W5_3) (w1 := ?w1_W5_4) ?hg ?ho ?hn ?hr ?_; (case ho => rfl); (case hg => rfl); (case hn => rfl); (case hr => first | (go_simp; done) | (go_simp; rfl)); intro W5 hw; have hk := kb5 hw; replace HO := am (Kd.R_mono (Kd.R_keep (Kd.R_types HO.out BK_g8.out (by decide)) hk (fun _ h_ => h_.2)) (fun _ h_ => h_.1)); replace HB := sb5 HB GE_g8 hw; (try clear c_g2); replace BK_g2 := bk BK_g2 hk NE_g2_g8; have c_g2 := cf2 BK_g2; (try clear c_g3); replace BK_g3 := bk BK_g3 hk NE_g3_g8; have c_g3 := cf3 BK_g3; (try clear c_g4); replace BK_g4 := bk BK_g4 hk NE_g4_g8; have c_g4 := cf2 BK_g4; (try clear c_g8); replace BK_g8 := bp5 BK_g8 hw; have c_g8 := cf5 BK_g8; clear hk hw))
     try rw [Exit.noGoto_ret]
     refine bodyPost_ret (v := .tuple #[.agg #[.bool false, .int .i64 0], .int .i64 70]) (by simp [results, Tryd.results10, go_sem, *]) rfl ⟨by rw [HE.out], ?_⟩
     exact below_set (below_set HB.out GE_g4.out) GE_g4.out
   have n27 : i0 < 27 := by omega
   have eB : decide (27 ≤ i0) = false := by simp; omega
   clear hB
   by_cases hC : i0 = 0
   ·subst hC
    as_aux_lemma =>
     have Q0 := am (show w.cell? ⟨0, 0, none⟩ = some (Value.int .i64 (-1)) from HG.out.operands 0 (by omega))
     have q0 := pw_cell_below HB.out Q0.out
     have HE := am (show runV code cols L each at_ = ((false, 0), 70) from by rw [HT.out, s_few HI.out (by omega) (by omega) (.inl (by decide))])
     go_wp2_with (first | ((with_reducible refine gate_dst (N := 8) rfl ?_); refine box_event ?hg (N := 8) ?hd (cs := #[.int .i64 0, .int .i64 0, .int .i64 0, .int .i64 0, .int .i64 0]) (t := 47) ?hr ?_; (case hd => rfl); (case hg => rfl); (case hr => first | (go_simp; done) | (go_simp; rfl)); intro g8 hg_ W4 hbox hb; have GE_g8 := ge1 hg_ HB; have NE_g8_g2 := ne1 hg_ BK_g2; have NE_g2_g8 := ne2 NE_g8_g2; have NE_g8_g3 := ne1 hg_ BK_g3; have NE_g3_g8 := ne2 NE_g8_g3; have NE_g8_g4 := ne1 hg_ BK_g4; have NE_g4_g8 := ne2 NE_g8_g4; replace HB := bs HB hb; (try clear c_g2); replace BK_g2 := bb BK_g2 hb; have c_g2 := cf2 BK_g2; (try clear c_g3); replace BK_g3 := bb BK_g3 hb; have c_g3 := cf3 BK_g3; (try clear c_g4); replace BK_g4 := bb BK_g4 hb; have c_g4 := cf2 BK_g4; replace HO := bR HO hb; have BK_g8 := am hbox; have c_g8 := cf5 BK_g8; clear hb hbox hg_; (try clear q0); have q0 := pw_cell_below HB.out Q0.out) | ((with_reducible refine gate_store (t := 47) (p := 8) rfl ?_); refine store_event (t := 47) (p := 8) (v := ?vo_W5_5) (w1 := ?w1_W5_6) ?hg ?ho ?hn ?hr ?_; (case ho => rfl); (case hg => rfl); (case hn => rfl); (case hr => first | (go_simp; done) | (go_simp; rfl)); intro W5 hw; have hk := kb5 hw; replace HO := am (Kd.R_mono (Kd.R_keep (Kd.R_types HO.out BK_g8.out (by decide)) hk (fun _ h_ => h_.2)) (fun _ h_ => h_.1)); replace HB := sb5 HB GE_g8 hw; (try clear c_g2); replace BK_g2 := bk BK_g2 hk NE_g2_g8; have c_g2 := cf2 BK_g2; (try clear c_g3); replace BK_g3 := bk BK_g3 hk NE_g3_g8; have c_g3 := cf3 BK_g3; (try clear c_g4); replace BK_g4 := bk BK_g4 hk NE_g4_g8; have c_g4 := cf2 BK_g4; (try clear c_g8); replace BK_g8 := bp5 BK_g8 hw; have c_g8 := cf5 BK_g8; clear hk hw; (try clear q0); have q0 := pw_cell_below HB.out Q0.out))
     try rw [Exit.noGoto_ret]
     refine bodyPost_ret (v := .tuple #[.agg #[.bool false, .int .i64 0], .int .i64 70]) (by simp [results, Tryd.results10, go_sem, *]) rfl ⟨by rw [HE.out], ?_⟩
     exact below_set (below_set HB.out GE_g4.out) GE_g4.out
   by_cases h1 : i0 = 1
   ·subst h1
    as_aux_lemma =>
     obtain ⟨AS, cs_, rfl⟩ := Kd.R_slice HO.out
     have eL : decide ((xs.length : Int) < 0) = false := by simp
     have Q0 := am (show w.cell? ⟨0, 1, none⟩ = some (Value.int .i64 (0)) from HG.out.operands 1 (by omega))
     have q0 := pw_cell_below HB.out Q0.out
     have HE := am (HT.out.trans (by rw [s_push HI.out rfl]))
     go_wp2_with (first | ((with_reducible refine gate_dst (N := 8) rfl ?_); refine box_event ?hg (N := 8) ?hd (cs := #[.int .i64 0, .int .i64 0, .int .i64 0, .int .i64 0, .int .i64 0]) (t := 47) ?hr ?_; (case hd => rfl); (case hg => rfl); (case hr => first | (go_simp; done) | (go_simp; rfl)); intro g8 hg_ W4 hbox hb; have GE_g8 := ge1 hg_ HB; have NE_g8_g2 := ne1 hg_ BK_g2; have NE_g2_g8 := ne2 NE_g8_g2; have NE_g8_g3 := ne1 hg_ BK_g3; have NE_g3_g8 := ne2 NE_g8_g3; have NE_g8_g4 := ne1 hg_ BK_g4; have NE_g4_g8 := ne2 NE_g8_g4; replace HB := bs HB hb; (try clear c_g2); replace BK_g2 := bb BK_g2 hb; have c_g2 := cf2 BK_g2; (try clear c_g3); replace BK_g3 := bb BK_g3 hb; have c_g3 := cf3 BK_g3; (try clear c_g4); replace BK_g4 := bb BK_g4 hb; have c_g4 := cf2 BK_g4; replace HO := bR HO hb; have BK_g8 := am hbox; have c_g8 := cf5 BK_g8; clear hb hbox hg_; (try clear q0); have q0 := pw_cell_below HB.out Q0.out) | ((with_reducible refine gate_store (t := 47) (p := 8) rfl ?_); refine store_event (t := 47) (p := 8) (v := ?vo_W5_7) (w1 := ?w1_W5_8) ?hg ?ho ?hn ?hr ?_; (case ho => rfl); (case hg => rfl); (case hn => rfl); (case hr => first | (go_simp; done) | (go_simp; rfl)); intro W5 hw; have hk := kb5 hw; replace HO := am (Kd.R_mono (Kd.R_keep (Kd.R_types HO.out BK_g8.out (by decide)) hk (fun _ h_ => h_.2)) (fun _ h_ => h_.1)); replace HB := sb5 HB GE_g8 hw; (try clear c_g2); replace BK_g2 := bk BK_g2 hk NE_g2_g8; have c_g2 := cf2 BK_g2; (try clear c_g3); replace BK_g3 := bk BK_g3 hk NE_g3_g8; have c_g3 := cf3 BK_g3; (try clear c_g4); replace BK_g4 := bk BK_g4 hk NE_g4_g8; have c_g4 := cf2 BK_g4; (try clear c_g8); replace BK_g8 := bp5 BK_g8 hw; have c_g8 := cf5 BK_g8; clear hk hw; (try clear q0); have q0 := pw_cell_below HB.out Q0.out) | ((with_reducible refine gate_builtin (b := .append) (xs := #[.tmp 70, .tmp 74]) rfl ?_); at_builtin; refine Kd.R_append k50 (w0 := w) w.heap.size rfl (.tmp 70) (.tmp 74) 85 50 (.agg #[.bool false, .int .i64 0]) 16 rfl Tryd.underlying85 info50 rfl (by decide) (by omega) _ xs ⟨true, i3⟩ [.bool true, .int .i64 i3] (fun q_ => q_ ≠ g4) (fun _ => False) rfl ?aX ?aP (fun _ hk => hk.elim) ?aF HO.out HB.out (below_size HB.out) ?aL ?_; (case aX => first | rfl | (show Value.slice _ _ _ = Value.slice _ _ _; simp)); (case aP => exact k50_mkM _ _ _ _); (case aF => exact (fun q_ h_ e_ => by have := blk_lt BK_g4.out; omega)); (case aL => have := HX.out; have := HK.out; have := HS.out; omega); intro v_ W6 ho hb hg hat_; clear hat_; have HOq := HO; clear HO; have HO := am ho; have HBn := am hb; clear ho hb; replace HB := am (HBn.out); (try clear c_g2); replace BK_g2 := am (blk_grown BK_g2.out hg (Kd.R_ne HOq.out BK_g2.out (by decide))); have c_g2 := cf2 BK_g2; (try clear c_g3); replace BK_g3 := am (blk_grown BK_g3.out hg (Kd.R_ne HOq.out BK_g3.out (by decide))); have c_g3 := cf3 BK_g3; (try clear c_g4); replace BK_g4 := am (blk_grown BK_g4.out hg (Kd.R_away HOq.out (fun _ h_ => h_))); have c_g4 := cf2 BK_g4; (try clear c_g8); replace BK_g8 := am (blk_grown BK_g8.out hg (Kd.R_ne HOq.out BK_g8.out (by decide))); have c_g8 := cf5 BK_g8; (try clear q0); have q0 := pw_cell_below HB.out Q0.out; clear hg HBn HOq))
     go_roundw
     case rel => exact ⟨k + 1, d', _, by first | rfl | go_num | (congr 1; omega), by omega, ⟨by have := HDK.out; omega⟩, ⟨HE.out.symm⟩, HO, ⟨by simp; have := HX.out; omega⟩, HB, BK_g2, BK_g3, BK_g4⟩
     case measure => exact mu_ hlt (by omega)
   by_cases h9 : i0 ≤ 9
   ·have e1 : (i0 == 1) = false := by simpa using h1
    have e9 : decide (i0 ≤ 9) = true := by simpa using h9
    obtain ⟨AS, cs_, rfl⟩ := Kd.R_slice HO.out
    have eL : decide ((xs.length : Int) < 0) = false := by simp
    have Q0 := am (show w.cell? ⟨0, i0.toNat, none⟩ = some (Value.int .i64 (0)) from by rw [HG.out.operands _ (by omega), tOp0 i0 (by omega) (by omega)])
    have q0 := pw_cell_below HB.out Q0.out
    by_cases h4 : i0 = 4
    ·subst h4
     as_aux_lemma =>
      clear Q0 q0
      have Q0 := am (show w.cell? ⟨0, 4, none⟩ = some (Value.int .i64 (0)) from HG.out.operands 4 (by omega))
      have q0 := pw_cell_below HB.out Q0.out
      have HE := am (HT.out.trans (by rw [s_ment HI.out (by omega) (by omega) (by omega)]))
      rw [show colV cols ⟨4, i1, i2, i3, i4⟩ = ([] : List Int) from rfl] at HE
      go_wp2_with (first | ((with_reducible refine gate_dst (N := 8) rfl ?_); refine box_event ?hg (N := 8) ?hd (cs := #[.int .i64 0, .int .i64 0, .int .i64 0, .int .i64 0, .int .i64 0]) (t := 47) ?hr ?_; (case hd => rfl); (case hg => rfl); (case hr => first | (go_simp; done) | (go_simp; rfl)); intro g8 hg_ W4 hbox hb; have GE_g8 := ge1 hg_ HB; have NE_g8_g2 := ne1 hg_ BK_g2; have NE_g2_g8 := ne2 NE_g8_g2; have NE_g8_g3 := ne1 hg_ BK_g3; have NE_g3_g8 := ne2 NE_g8_g3; have NE_g8_g4 := ne1 hg_ BK_g4; have NE_g4_g8 := ne2 NE_g8_g4; replace HB := bs HB hb; (try clear c_g2); replace BK_g2 := bb BK_g2 hb; have c_g2 := cf2 BK_g2; (try clear c_g3); replace BK_g3 := bb BK_g3 hb; have c_g3 := cf3 BK_g3; (try clear c_g4); replace BK_g4 := bb BK_g4 hb; have c_g4 := cf2 BK_g4; replace HO := bR HO hb; have BK_g8 := am hbox; have c_g8 := cf5 BK_g8; clear hb hbox hg_; (try clear q0); have q0 := pw_cell_below HB.out Q0.out) | ((with_reducible refine gate_store (t := 47) (p := 8) rfl ?_); refine store_event (t := 47) (p := 8) (v := ?vo_W5_9) (w1 := ?w1_W5_10) ?hg ?ho ?hn ?hr ?_; (case ho => rfl); (case hg => rfl); (case hn => rfl); (case hr => first | (go_simp; done) | (go_simp; rfl)); intro W5 hw; have hk := kb5 hw; replace HO := am (Kd.R_mono (Kd.R_keep (Kd.R_types HO.out BK_g8.out (by decide)) hk (fun _ h_ => h_.2)) (fun _ h_ => h_.1)); replace HB := sb5 HB GE_g8 hw; (try clear c_g2); replace BK_g2 := bk BK_g2 hk NE_g2_g8; have c_g2 := cf2 BK_g2; (try clear c_g3); replace BK_g3 := bk BK_g3 hk NE_g3_g8; have c_g3 := cf3 BK_g3; (try clear c_g4); replace BK_g4 := bk BK_g4 hk NE_g4_g8; have c_g4 := cf2 BK_g4; (try clear c_g8); replace BK_g8 := bp5 BK_g8 hw; have c_g8 := cf5 BK_g8; clear hk hw; (try clear q0); have q0 := pw_cell_below HB.out Q0.out) | (go_at_call 21; refine (code_mention ⟨4, i1, i2, i3, i4⟩ _ _ ([] : List Int) _ _ L each at_ _ (HG.out.below HB.out) (Kd.C_below HL.out HB.out) (Kd.C_nil _ _) HD.out hat hat2).mono ?_; rintro e W6 ⟨rfl, hb⟩; replace HB := bs HB hb; (try clear c_g2); replace BK_g2 := bb BK_g2 hb; have c_g2 := cf2 BK_g2; (try clear c_g3); replace BK_g3 := bb BK_g3 hb; have c_g3 := cf3 BK_g3; (try clear c_g4); replace BK_g4 := bb BK_g4 hb; have c_g4 := cf2 BK_g4; (try clear c_g8); replace BK_g8 := bb BK_g8 hb; have c_g8 := cf5 BK_g8; replace HO := bR HO hb; clear hb; (try clear q0); have q0 := pw_cell_below HB.out Q0.out) | ((with_reducible refine gate_builtin (b := .append) (xs := #[.tmp 100, .tmp 105]) rfl ?_); at_builtin; refine Kd.R_append k50 (w0 := w) w.heap.size rfl (.tmp 100) (.tmp 105) 85 50 (.agg #[.bool false, .int .i64 0]) 16 rfl Tryd.underlying85 info50 rfl (by decide) (by omega) _ xs (stV (mentionV ⟨4, i1, i2, i3, i4⟩ ([] : List Int) L each at_)) [.bool (mentionV ⟨4, i1, i2, i3, i4⟩ ([] : List Int) L each at_).1, .int .i64 (mentionV ⟨4, i1, i2, i3, i4⟩ ([] : List Int) L each at_).2] (fun q_ => q_ ≠ g4) (fun _ => False) rfl ?aX ?aP (fun _ hk => hk.elim) ?aF HO.out HB.out (below_size HB.out) ?aL ?_; (case aX => first | rfl | (show Value.slice _ _ _ = Value.slice _ _ _; simp)); (case aP => exact k50_mkM _ _ _ _); (case aF => exact (fun q_ h_ e_ => by have := blk_lt BK_g4.out; omega)); (case aL => have := HX.out; have := HK.out; have := HS.out; omega); intro v_ W7 ho hb hg hat_; clear hat_; have HOq := HO; clear HO; have HO := am ho; have HBn := am hb; clear ho hb; replace HB := am (HBn.out); (try clear c_g2); replace BK_g2 := am (blk_grown BK_g2.out hg (Kd.R_ne HOq.out BK_g2.out (by decide))); have c_g2 := cf2 BK_g2; (try clear c_g3); replace BK_g3 := am (blk_grown BK_g3.out hg (Kd.R_ne HOq.out BK_g3.out (by decide))); have c_g3 := cf3 BK_g3; (try clear c_g4); replace BK_g4 := am (blk_grown BK_g4.out hg (Kd.R_away HOq.out (fun _ h_ => h_))); have c_g4 := cf2 BK_g4; (try clear c_g8); replace BK_g8 := am (blk_grown BK_g8.out hg (Kd.R_ne HOq.out BK_g8.out (by decide))); have c_g8 := cf5 BK_g8; (try clear q0); have q0 := pw_cell_below HB.out Q0.out; clear hg HBn HOq))
      go_roundw
      case rel => exact ⟨k + 1, d', _, by first | rfl | go_num | (congr 1; omega), by omega, ⟨by have := HDK.out; omega⟩, ⟨HE.out.symm⟩, HO, ⟨by simp; have := HX.out; omega⟩, HB, BK_g2, BK_g3, BK_g4⟩
      case measure => exact mu_ hlt (by omega)
    have e4 : (i0 != 4) = true := by simpa using h4
    by_cases n2 : i2 < 0
    ·have eN : decide (i2 < 0) = true := by simpa using n2
     as_aux_lemma =>
      have HE := am (show runV code cols L each at_ = ((false, 0), 70) from by rw [HT.out, s_col HI.out (by omega) (by omega) ⟨h4, .inl n2⟩])
      go_wp2_with (first | ((with_reducible refine gate_dst (N := 8) rfl ?_); refine box_event ?hg (N := 8) ?hd (cs := #[.int .i64 0, .int .i64 0, .int .i64 0, .int .i64 0, .int .i64 0]) (t := 47) ?hr ?_; (case hd => rfl); (case hg => rfl); (case hr => first | (go_simp; done) | (go_simp; rfl)); intro g8 hg_ W4 hbox hb; have GE_g8 := ge1 hg_ HB; have NE_g8_g2 := ne1 hg_ BK_g2; have NE_g2_g8 := ne2 NE_g8_g2; have NE_g8_g3 := ne1 hg_ BK_g3; have NE_g3_g8 := ne2 NE_g8_g3; have NE_g8_g4 := ne1 hg_ BK_g4; have NE_g4_g8 := ne2 NE_g8_g4; replace HB := bs HB hb; (try clear c_g2); replace BK_g2 := bb BK_g2 hb; have c_g2 := cf2 BK_g2; (try clear c_g3); replace BK_g3 := bb BK_g3 hb; have c_g3 := cf3 BK_g3; (try clear c_g4); replace BK_g4 := bb BK_g4 hb; have c_g4 := cf2 BK_g4; replace HO := bR HO hb; have BK_g8 := am hbox; have c_g8 := cf5 BK_g8; clear hb hbox hg_; (try clear q0); have q0 := pw_cell_below HB.out Q0.out) | ((with_reducible refine gate_store (t := 47) (p := 8) rfl ?_); refine store_event (t := 47) (p := 8) (v := ?vo_W5_11) (w1 := ?w1_W5_12) ?hg ?ho ?hn ?hr ?_; (case ho => rfl); (case hg => rfl); (case hn => rfl); (case hr => first | (go_simp; done) | (go_simp; rfl)); intro W5 hw; have hk := kb5 hw; replace HO := am (Kd.R_mono (Kd.R_keep (Kd.R_types HO.out BK_g8.out (by decide)) hk (fun _ h_ => h_.2)) (fun _ h_ => h_.1)); replace HB := sb5 HB GE_g8 hw; (try clear c_g2); replace BK_g2 := bk BK_g2 hk NE_g2_g8; have c_g2 := cf2 BK_g2; (try clear c_g3); replace BK_g3 := bk BK_g3 hk NE_g3_g8; have c_g3 := cf3 BK_g3; (try clear c_g4); replace BK_g4 := bk BK_g4 hk NE_g4_g8; have c_g4 := cf2 BK_g4; (try clear c_g8); replace BK_g8 := bp5 BK_g8 hw; have c_g8 := cf5 BK_g8; clear hk hw; (try clear q0); have q0 := pw_cell_below HB.out Q0.out))
      try rw [Exit.noGoto_ret]
      refine bodyPost_ret (v := .tuple #[.agg #[.bool false, .int .i64 0], .int .i64 70]) (by simp [results, Tryd.results10, go_sem, *]) rfl ⟨by rw [HE.out], ?_⟩
      exact below_set (below_set HB.out GE_g4.out) GE_g4.out
    have eN : decide (i2 < 0) = false := by simp; omega
    by_cases n3 : (cols.length : Int) ≤ i2
    ·have eM : decide ((cols.length : Int) ≤ i2) = true := by simpa using n3
     as_aux_lemma =>
      have HE := am (show runV code cols L each at_ = ((false, 0), 70) from by rw [HT.out, s_col HI.out (by omega) (by omega) ⟨h4, .inr n3⟩])
      go_wp2_with (first | ((with_reducible refine gate_dst (N := 8) rfl ?_); refine box_event ?hg (N := 8) ?hd (cs := #[.int .i64 0, .int .i64 0, .int .i64 0, .int .i64 0, .int .i64 0]) (t := 47) ?hr ?_; (case hd => rfl); (case hg => rfl); (case hr => first | (go_simp; done) | (go_simp; rfl)); intro g8 hg_ W4 hbox hb; have GE_g8 := ge1 hg_ HB; have NE_g8_g2 := ne1 hg_ BK_g2; have NE_g2_g8 := ne2 NE_g8_g2; have NE_g8_g3 := ne1 hg_ BK_g3; have NE_g3_g8 := ne2 NE_g8_g3; have NE_g8_g4 := ne1 hg_ BK_g4; have NE_g4_g8 := ne2 NE_g8_g4; replace HB := bs HB hb; (try clear c_g2); replace BK_g2 := bb BK_g2 hb; have c_g2 := cf2 BK_g2; (try clear c_g3); replace BK_g3 := bb BK_g3 hb; have c_g3 := cf3 BK_g3; (try clear c_g4); replace BK_g4 := bb BK_g4 hb; have c_g4 := cf2 BK_g4; replace HO := bR HO hb; have BK_g8 := am hbox; have c_g8 := cf5 BK_g8; clear hb hbox hg_; (try clear q0); have q0 := pw_cell_below HB.out Q0.out) | ((with_reducible refine gate_store (t := 47) (p := 8) rfl ?_); refine store_event (t := 47) (p := 8) (v := ?vo_W5_13) (w1 := ?w1_W5_14) ?hg ?ho ?hn ?hr ?_; (case ho => rfl); (case hg => rfl); (case hn => rfl); (case hr => first | (go_simp; done) | (go_simp; rfl)); intro W5 hw; have hk := kb5 hw; replace HO := am (Kd.R_mono (Kd.R_keep (Kd.R_types HO.out BK_g8.out (by decide)) hk (fun _ h_ => h_.2)) (fun _ h_ => h_.1)); replace HB := sb5 HB GE_g8 hw; (try clear c_g2); replace BK_g2 := bk BK_g2 hk NE_g2_g8; have c_g2 := cf2 BK_g2; (try clear c_g3); replace BK_g3 := bk BK_g3 hk NE_g3_g8; have c_g3 := cf3 BK_g3; (try clear c_g4); replace BK_g4 := bk BK_g4 hk NE_g4_g8; have c_g4 := cf2 BK_g4; (try clear c_g8); replace BK_g8 := bp5 BK_g8 hw; have c_g8 := cf5 BK_g8; clear hk hw; (try clear q0); have q0 := pw_cell_below HB.out Q0.out))
      try rw [Exit.noGoto_ret]
      refine bodyPost_ret (v := .tuple #[.agg #[.bool false, .int .i64 0], .int .i64 70]) (by simp [results, Tryd.results10, go_sem, *]) rfl ⟨by rw [HE.out], ?_⟩
      exact below_set (below_set HB.out GE_g4.out) GE_g4.out
    have eM : decide ((cols.length : Int) ≤ i2) = false := by simp; omega
    have n2' : 0 ≤ i2 := by omega
    have n3' : i2 < (cols.length : Int) := by omega
    clear n2 n3
    obtain ⟨bd, B0, d0, rfl, hc_, hl_, hC_⟩ := at_L8 HQ.out i2 n2' n3'
    have K0 := am hc_
    have kc := pw_cell_below HB.out K0.out
    have HC := am hC_
    clear hc_ hl_ hC_
    as_aux_lemma =>
     have HE := am (HT.out.trans (by rw [s_ment HI.out (by omega) (by omega) (by omega)]))
     rw [show colV cols ⟨i0, i1, i2, i3, i4⟩ = (rd_L8 cols i2) from if_neg h4] at HE
     go_wp2_with (first | ((with_reducible refine gate_dst (N := 8) rfl ?_); refine box_event ?hg (N := 8) ?hd (cs := #[.int .i64 0, .int .i64 0, .int .i64 0, .int .i64 0, .int .i64 0]) (t := 47) ?hr ?_; (case hd => rfl); (case hg => rfl); (case hr => first | (go_simp; done) | (go_simp; rfl)); intro g8 hg_ W4 hbox hb; have GE_g8 := ge1 hg_ HB; have NE_g8_g2 := ne1 hg_ BK_g2; have NE_g2_g8 := ne2 NE_g8_g2; have NE_g8_g3 := ne1 hg_ BK_g3; have NE_g3_g8 := ne2 NE_g8_g3; have NE_g8_g4 := ne1 hg_ BK_g4; have NE_g4_g8 := ne2 NE_g8_g4; replace HB := bs HB hb; (try clear c_g2); replace BK_g2 := bb BK_g2 hb; have c_g2 := cf2 BK_g2; (try clear c_g3); replace BK_g3 := bb BK_g3 hb; have c_g3 := cf3 BK_g3; (try clear c_g4); replace BK_g4 := bb BK_g4 hb; have c_g4 := cf2 BK_g4; replace HO := bR HO hb; have BK_g8 := am hbox; have c_g8 := cf5 BK_g8; clear hb hbox hg_; (try clear q0); have q0 := pw_cell_below HB.out Q0.out; (try clear kc); have kc := pw_cell_below HB.out K0.out) | ((with_reducible refine gate_store (t := 47) (p := 8) rfl ?_); refine store_event (t := 47) (p := 8) (v := ?vo_W5_15) (w1 := ?w1_W5_16) ?hg ?ho ?hn ?hr ?_; (case ho => rfl); (case hg => rfl); (case hn => rfl); (case hr => first | (go_simp; done) | (go_simp; rfl)); intro W5 hw; have hk := kb5 hw; replace HO := am (Kd.R_mono (Kd.R_keep (Kd.R_types HO.out BK_g8.out (by decide)) hk (fun _ h_ => h_.2)) (fun _ h_ => h_.1)); replace HB := sb5 HB GE_g8 hw; (try clear c_g2); replace BK_g2 := bk BK_g2 hk NE_g2_g8; have c_g2 := cf2 BK_g2; (try clear c_g3); replace BK_g3 := bk BK_g3 hk NE_g3_g8; have c_g3 := cf3 BK_g3; (try clear c_g4); replace BK_g4 := bk BK_g4 hk NE_g4_g8; have c_g4 := cf2 BK_g4; (try clear c_g8); replace BK_g8 := bp5 BK_g8 hw; have c_g8 := cf5 BK_g8; clear hk hw; (try clear q0); have q0 := pw_cell_below HB.out Q0.out; (try clear kc); have kc := pw_cell_below HB.out K0.out) | (go_at_call 21; refine (code_mention ⟨i0, i1, i2, i3, i4⟩ _ _ (rd_L8 cols i2) _ _ L each at_ _ (HG.out.below HB.out) (Kd.C_below HL.out HB.out) (Kd.C_below HC.out HB.out) HD.out hat hat2).mono ?_; rintro e W6 ⟨rfl, hb⟩; replace HB := bs HB hb; (try clear c_g2); replace BK_g2 := bb BK_g2 hb; have c_g2 := cf2 BK_g2; (try clear c_g3); replace BK_g3 := bb BK_g3 hb; have c_g3 := cf3 BK_g3; (try clear c_g4); replace BK_g4 := bb BK_g4 hb; have c_g4 := cf2 BK_g4; (try clear c_g8); replace BK_g8 := bb BK_g8 hb; have c_g8 := cf5 BK_g8; replace HO := bR HO hb; clear hb; (try clear q0); have q0 := pw_cell_below HB.out Q0.out; (try clear kc); have kc := pw_cell_below HB.out K0.out) | ((with_reducible refine gate_builtin (b := .append) (xs := #[.tmp 100, .tmp 105]) rfl ?_); at_builtin; refine Kd.R_append k50 (w0 := w) w.heap.size rfl (.tmp 100) (.tmp 105) 85 50 (.agg #[.bool false, .int .i64 0]) 16 rfl Tryd.underlying85 info50 rfl (by decide) (by omega) _ xs (stV (mentionV ⟨i0, i1, i2, i3, i4⟩ (rd_L8 cols i2) L each at_)) [.bool (mentionV ⟨i0, i1, i2, i3, i4⟩ (rd_L8 cols i2) L each at_).1, .int .i64 (mentionV ⟨i0, i1, i2, i3, i4⟩ (rd_L8 cols i2) L each at_).2] (fun q_ => q_ ≠ g4) (fun _ => False) rfl ?aX ?aP (fun _ hk => hk.elim) ?aF HO.out HB.out (below_size HB.out) ?aL ?_; (case aX => first | rfl | (show Value.slice _ _ _ = Value.slice _ _ _; simp)); (case aP => exact k50_mkM _ _ _ _); (case aF => exact (fun q_ h_ e_ => by have := blk_lt BK_g4.out; omega)); (case aL => have := HX.out; have := HK.out; have := HS.out; omega); intro v_ W7 ho hb hg hat_; clear hat_; have HOq := HO; clear HO; have HO := am ho; have HBn := am hb; clear ho hb; replace HB := am (HBn.out); (try clear c_g2); replace BK_g2 := am (blk_grown BK_g2.out hg (Kd.R_ne HOq.out BK_g2.out (by decide))); have c_g2 := cf2 BK_g2; (try clear c_g3); replace BK_g3 := am (blk_grown BK_g3.out hg (Kd.R_ne HOq.out BK_g3.out (by decide))); have c_g3 := cf3 BK_g3; (try clear c_g4); replace BK_g4 := am (blk_grown BK_g4.out hg (Kd.R_away HOq.out (fun _ h_ => h_))); have c_g4 := cf2 BK_g4; (try clear c_g8); replace BK_g8 := am (blk_grown BK_g8.out hg (Kd.R_ne HOq.out BK_g8.out (by decide))); have c_g8 := cf5 BK_g8; (try clear q0); have q0 := pw_cell_below HB.out Q0.out; (try clear kc); have kc := pw_cell_below HB.out K0.out; clear hg HBn HOq))
     go_roundw
     case rel => exact ⟨k + 1, d', _, by first | rfl | go_num | (congr 1; omega), by omega, ⟨by have := HDK.out; omega⟩, ⟨HE.out.symm⟩, HO, ⟨by simp; have := HX.out; omega⟩, HB, BK_g2, BK_g3, BK_g4⟩
     case measure => exact mu_ hlt (by omega)
   have e1 : (i0 == 1) = false := by simpa using h1
   have e9 : decide (i0 ≤ 9) = false := by simp; omega
   by_cases h10 : i0 = 10
   ·subst h10
    have Q0 := am (show w.cell? ⟨0, 10, none⟩ = some (Value.int .i64 (1)) from HG.out.operands 10 (by omega))
    have q0 := pw_cell_below HB.out Q0.out
    by_cases hl : xs.length < 1
    ·as_aux_lemma =>
      have eL : decide ((xs.length : Int) < 1) = true := by simp; omega
      obtain ⟨AS, cs_, rfl⟩ := Kd.R_slice HO.out
      have HE := am (show runV code cols L each at_ = ((false, 0), 70) from by rw [HT.out, s_few HI.out n0 n27 (.inr (by rw [tOp1 10 (by omega)]; omega))])
      go_wp2_with (first | ((with_reducible refine gate_dst (N := 8) rfl ?_); refine box_event ?hg (N := 8) ?hd (cs := #[.int .i64 0, .int .i64 0, .int .i64 0, .int .i64 0, .int .i64 0]) (t := 47) ?hr ?_; (case hd => rfl); (case hg => rfl); (case hr => first | (go_simp; done) | (go_simp; rfl)); intro g8 hg_ W4 hbox hb; have GE_g8 := ge1 hg_ HB; have NE_g8_g2 := ne1 hg_ BK_g2; have NE_g2_g8 := ne2 NE_g8_g2; have NE_g8_g3 := ne1 hg_ BK_g3; have NE_g3_g8 := ne2 NE_g8_g3; have NE_g8_g4 := ne1 hg_ BK_g4; have NE_g4_g8 := ne2 NE_g8_g4; replace HB := bs HB hb; (try clear c_g2); replace BK_g2 := bb BK_g2 hb; have c_g2 := cf2 BK_g2; (try clear c_g3); replace BK_g3 := bb BK_g3 hb; have c_g3 := cf3 BK_g3; (try clear c_g4); replace BK_g4 := bb BK_g4 hb; have c_g4 := cf2 BK_g4; replace HO := bR HO hb; have BK_g8 := am hbox; have c_g8 := cf5 BK_g8; clear hb hbox hg_; (try clear q0); have q0 := pw_cell_below HB.out Q0.out) | ((with_reducible refine gate_store (t := 47) (p := 8) rfl ?_); refine store_event (t := 47) (p := 8) (v := ?vo_W5_17) (w1 := ?w1_W5_18) ?hg ?ho ?hn ?hr ?_; (case ho => rfl); (case hg => rfl); (case hn => rfl); (case hr => first | (go_simp; done) | (go_simp; rfl)); intro W5 hw; have hk := kb5 hw; replace HO := am (Kd.R_mono (Kd.R_keep (Kd.R_types HO.out BK_g8.out (by decide)) hk (fun _ h_ => h_.2)) (fun _ h_ => h_.1)); replace HB := sb5 HB GE_g8 hw; (try clear c_g2); replace BK_g2 := bk BK_g2 hk NE_g2_g8; have c_g2 := cf2 BK_g2; (try clear c_g3); replace BK_g3 := bk BK_g3 hk NE_g3_g8; have c_g3 := cf3 BK_g3; (try clear c_g4); replace BK_g4 := bk BK_g4 hk NE_g4_g8; have c_g4 := cf2 BK_g4; (try clear c_g8); replace BK_g8 := bp5 BK_g8 hw; have c_g8 := cf5 BK_g8; clear hk hw; (try clear q0); have q0 := pw_cell_below HB.out Q0.out))
      try rw [Exit.noGoto_ret]
      refine bodyPost_ret (v := .tuple #[.agg #[.bool false, .int .i64 0], .int .i64 70]) (by simp [results, Tryd.results10, go_sem, *]) rfl ⟨by rw [HE.out], ?_⟩
      exact below_set (below_set HB.out GE_g4.out) GE_g4.out
    as_aux_lemma =>
     obtain ⟨m, hm⟩ : ∃ m, xs.length = m + 1 := ⟨xs.length - 1, by omega⟩
     obtain ⟨gs, cap, rfl⟩ := stk_form HO.out m hm
     have eL : decide ((m : Int) + 1 < 1) = false := by simp; omega
     have eT1 : wrap64 ((m : Int) + 1 - 1) = (m : Int) := by rw [show (m : Int) + 1 - 1 = m by omega]; exact IntWalk.wrap64_in _ (by have := HX.out; have := HS.out; omega)
     have eT2 : wrap64 (m : Int) = (m : Int) := IntWalk.wrap64_in _ (by have := HX.out; have := HS.out; omega)
     obtain ⟨⟨b, n⟩, hx_⟩ : ∃ q, xs.getD m z50 = q := ⟨_, rfl⟩
     have HXM := am hx_
     clear hx_
     obtain ⟨s0, s1⟩ := stk_at2 HO.out m (by omega) b n HXM.out
     have HE := am (HT.out.trans (by rw [s_neg HI.out rfl hm HXM.out]))
     go_wp2_with (first | ((with_reducible refine gate_dst (N := 8) rfl ?_); refine box_event ?hg (N := 8) ?hd (cs := #[.int .i64 0, .int .i64 0, .int .i64 0, .int .i64 0, .int .i64 0]) (t := 47) ?hr ?_; (case hd => rfl); (case hg => rfl); (case hr => first | (go_simp; done) | (go_simp; rfl)); intro g8 hg_ W4 hbox hb; have GE_g8 := ge1 hg_ HB; have NE_g8_g2 := ne1 hg_ BK_g2; have NE_g2_g8 := ne2 NE_g8_g2; have NE_g8_g3 := ne1 hg_ BK_g3; have NE_g3_g8 := ne2 NE_g8_g3; have NE_g8_g4 := ne1 hg_ BK_g4; have NE_g4_g8 := ne2 NE_g8_g4; replace HB := bs HB hb; (try clear c_g2); replace BK_g2 := bb BK_g2 hb; have c_g2 := cf2 BK_g2; (try clear c_g3); replace BK_g3 := bb BK_g3 hb; have c_g3 := cf3 BK_g3; (try clear c_g4); replace BK_g4 := bb BK_g4 hb; have c_g4 := cf2 BK_g4; replace HO := bR HO hb; have BK_g8 := am hbox; have c_g8 := cf5 BK_g8; clear hb hbox hg_; (try clear q0); have q0 := pw_cell_below HB.out Q0.out; (try clear s0 s1); obtain ⟨s0, s1⟩ := stk_at2 HO.out m (by omega) _ _ HXM.out) | ((with_reducible refine gate_store (t := 47) (p := 8) rfl ?_); refine store_event (t := 47) (p := 8) (v := ?vo_W5_19) (w1 := ?w1_W5_20) ?hg ?ho ?hn ?hr ?_; (case ho => rfl); (case hg => rfl); (case hn => rfl); (case hr => first | (go_simp; done) | (go_simp; rfl)); intro W5 hw; have hk := kb5 hw; replace HO := am (Kd.R_mono (Kd.R_keep (Kd.R_types HO.out BK_g8.out (by decide)) hk (fun _ h_ => h_.2)) (fun _ h_ => h_.1)); replace HB := sb5 HB GE_g8 hw; (try clear c_g2); replace BK_g2 := bk BK_g2 hk NE_g2_g8; have c_g2 := cf2 BK_g2; (try clear c_g3); replace BK_g3 := bk BK_g3 hk NE_g3_g8; have c_g3 := cf3 BK_g3; (try clear c_g4); replace BK_g4 := bk BK_g4 hk NE_g4_g8; have c_g4 := cf2 BK_g4; (try clear c_g8); replace BK_g8 := bp5 BK_g8 hw; have c_g8 := cf5 BK_g8; clear hk hw; (try clear q0); have q0 := pw_cell_below HB.out Q0.out; (try clear s0 s1); obtain ⟨s0, s1⟩ := stk_at2 HO.out m (by omega) _ _ HXM.out) | (go_at_call 22; refine (num_Neg b n _ (HG.out.below HB.out)).mono ?_; rintro e W6 ⟨rfl, hb⟩; replace HB := bs HB hb; (try clear c_g2); replace BK_g2 := bb BK_g2 hb; have c_g2 := cf2 BK_g2; (try clear c_g3); replace BK_g3 := bb BK_g3 hb; have c_g3 := cf3 BK_g3; (try clear c_g4); replace BK_g4 := bb BK_g4 hb; have c_g4 := cf2 BK_g4; (try clear c_g8); replace BK_g8 := bb BK_g8 hb; have c_g8 := cf5 BK_g8; replace HO := bR HO hb; clear hb; (try clear q0); have q0 := pw_cell_below HB.out Q0.out; (try clear s0 s1); obtain ⟨s0, s1⟩ := stk_at2 HO.out m (by omega) _ _ HXM.out) | ((with_reducible refine gate_store (t := 50) (p := 118) rfl ?_); refine Kd.R_store k50 (w0 := w) w.heap.size rfl rfl 50 _ _ rfl 50 (o' := m * 2) (((m : Nat) : Int) : Int) 0 xs (stV (negV b n)) (.agg #[.bool (negV b n).1, .int .i64 (negV b n).2]) [.bool (negV b n).1, .int .i64 (negV b n).2] [.bool b, .int .i64 n] (fun q_ => q_ ≠ g4) (fun _ => False) ?sa ?so rfl rfl ?st ?s1 HO.out ?s0 ?si rfl ?sc ?sj ?sm (fun _ h_ => h_.elim) HB.out ?_; (case sa => rfl); (case so => rw [Int.toNat_natCast]; rfl); (case st => kernel_rfl); (case s1 => intro q_ hq_; simp at hq_; rcases hq_ with rfl | rfl <;> rfl); (case s0 => omega); (case si => simp <;> omega); (case sc => rw [Int.toNat_natCast]; exact seg2_ s0 s1); (case sj => exact Nat.le_refl _); (case sm => exact k50_mkM _ _ _ _); intro W7 ho hb hg; rw [Int.toNat_natCast] at ho; have HOq := HO; clear HO; have HO := am ho; have HBn := am hb; clear ho hb; replace HB := am (HBn.out); (try clear c_g2); replace BK_g2 := am (blk_grown BK_g2.out hg (Kd.R_ne HOq.out BK_g2.out (by decide))); have c_g2 := cf2 BK_g2; (try clear c_g3); replace BK_g3 := am (blk_grown BK_g3.out hg (Kd.R_ne HOq.out BK_g3.out (by decide))); have c_g3 := cf3 BK_g3; (try clear c_g4); replace BK_g4 := am (blk_grown BK_g4.out hg (Kd.R_away HOq.out (fun _ h_ => h_))); have c_g4 := cf2 BK_g4; (try clear c_g8); replace BK_g8 := am (blk_grown BK_g8.out hg (Kd.R_ne HOq.out BK_g8.out (by decide))); have c_g8 := cf5 BK_g8; (try clear q0); have q0 := pw_cell_below HB.out Q0.out; clear hg HBn HOq))
     go_roundw
     case rel => exact ⟨k + 1, d', _, by first | rfl | go_num | (congr 1; omega), by omega, ⟨by have := HDK.out; omega⟩, ⟨HE.out.symm⟩, HO, ⟨by simp only [List.length_set]; have := HX.out; omega⟩, HB, BK_g2, BK_g3, BK_g4⟩
     case measure => exact mu_ hlt (by omega)
   have e10 : (i0 == 10) = false := by simpa using h10
   by_cases h11 : i0 = 11
   ·subst h11
    have Q0 := am (show w.cell? ⟨0, 11, none⟩ = some (Value.int .i64 (1)) from HG.out.operands 11 (by omega))
    have q0 := pw_cell_below HB.out Q0.out
    by_cases hl : xs.length < 1
    ·as_aux_lemma =>
      have eL : decide ((xs.length : Int) < 1) = true := by simp; omega
      obtain ⟨AS, cs_, rfl⟩ := Kd.R_slice HO.out
      have HE := am (show runV code cols L each at_ = ((false, 0), 70) from by rw [HT.out, s_few HI.out n0 n27 (.inr (by rw [tOp1 11 (by omega)]; omega))])
      go_wp2_with (first | ((with_reducible refine gate_dst (N := 8) rfl ?_); refine box_event ?hg (N := 8) ?hd (cs := #[.int .i64 0, .int .i64 0, .int .i64 0, .int .i64 0, .int .i64 0]) (t := 47) ?hr ?_; (case hd => rfl); (case hg => rfl); (case hr => first | (go_simp; done) | (go_simp; rfl)); intro g8 hg_ W4 hbox hb; have GE_g8 := ge1 hg_ HB; have NE_g8_g2 := ne1 hg_ BK_g2; have NE_g2_g8 := ne2 NE_g8_g2; have NE_g8_g3 := ne1 hg_ BK_g3; have NE_g3_g8 := ne2 NE_g8_g3; have NE_g8_g4 := ne1 hg_ BK_g4; have NE_g4_g8 := ne2 NE_g8_g4; replace HB := bs HB hb; (try clear c_g2); replace BK_g2 := bb BK_g2 hb; have c_g2 := cf2 BK_g2; (try clear c_g3); replace BK_g3 := bb BK_g3 hb; have c_g3 := cf3 BK_g3; (try clear c_g4); replace BK_g4 := bb BK_g4 hb; have c_g4 := cf2 BK_g4; replace HO := bR HO hb; have BK_g8 := am hbox; have c_g8 := cf5 BK_g8; clear hb hbox hg_; (try clear q0); have q0 := pw_cell_below HB.out Q0.out) | ((with_reducible refine gate_store (t := 47) (p := 8) rfl ?_); refine store_event (t := 47) (p := 8) (v := ?vo_W5_21) (w1 := ?w1_W5_22) ?hg ?ho ?hn ?hr ?_; (case ho => rfl); (case hg => rfl); (case hn => rfl); (case hr => first | (go_simp; done) | (go_simp; rfl)); intro W5 hw; have hk := kb5 hw; replace HO := am (Kd.R_mono (Kd.R_keep (Kd.R_types HO.out BK_g8.out (by decide)) hk (fun _ h_ => h_.2)) (fun _ h_ => h_.1)); replace HB := sb5 HB GE_g8 hw; (try clear c_g2); replace BK_g2 := bk BK_g2 hk NE_g2_g8; have c_g2 := cf2 BK_g2; (try clear c_g3); replace BK_g3 := bk BK_g3 hk NE_g3_g8; have c_g3 := cf3 BK_g3; (try clear c_g4); replace BK_g4 := bk BK_g4 hk NE_g4_g8; have c_g4 := cf2 BK_g4; (try clear c_g8); replace BK_g8 := bp5 BK_g8 hw; have c_g8 := cf5 BK_g8; clear hk hw; (try clear q0); have q0 := pw_cell_below HB.out Q0.out))
      try rw [Exit.noGoto_ret]
      refine bodyPost_ret (v := .tuple #[.agg #[.bool false, .int .i64 0], .int .i64 70]) (by simp [results, Tryd.results10, go_sem, *]) rfl ⟨by rw [HE.out], ?_⟩
      exact below_set (below_set HB.out GE_g4.out) GE_g4.out
    as_aux_lemma =>
     obtain ⟨m, hm⟩ : ∃ m, xs.length = m + 1 := ⟨xs.length - 1, by omega⟩
     obtain ⟨gs, cap, rfl⟩ := stk_form HO.out m hm
     have eL : decide ((m : Int) + 1 < 1) = false := by simp; omega
     have eT1 : wrap64 ((m : Int) + 1 - 1) = (m : Int) := by rw [show (m : Int) + 1 - 1 = m by omega]; exact IntWalk.wrap64_in _ (by have := HX.out; have := HS.out; omega)
     have eT2 : wrap64 (m : Int) = (m : Int) := IntWalk.wrap64_in _ (by have := HX.out; have := HS.out; omega)
     obtain ⟨⟨b, n⟩, hx_⟩ : ∃ q, xs.getD m z50 = q := ⟨_, rfl⟩
     have HXM := am hx_
     clear hx_
     obtain ⟨s0, s1⟩ := stk_at2 HO.out m (by omega) b n HXM.out
     have HE := am (HT.out.trans (by rw [s_not HI.out rfl hm HXM.out]))
     go_wp2_with (first | ((with_reducible refine gate_dst (N := 8) rfl ?_); refine box_event ?hg (N := 8) ?hd (cs := #[.int .i64 0, .int .i64 0, .int .i64 0, .int .i64 0, .int .i64 0]) (t := 47) ?hr ?_; (case hd => rfl); (case hg => rfl); (case hr => first | (go_simp; done) | (go_simp; rfl)); intro g8 hg_ W4 hbox hb; have GE_g8 := ge1 hg_ HB; have NE_g8_g2 := ne1 hg_ BK_g2; have NE_g2_g8 := ne2 NE_g8_g2; have NE_g8_g3 := ne1 hg_ BK_g3; have NE_g3_g8 := ne2 NE_g8_g3; have NE_g8_g4 := ne1 hg_ BK_g4; have NE_g4_g8 := ne2 NE_g8_g4; replace HB := bs HB hb; (try clear c_g2); replace BK_g2 := bb BK_g2 hb; have c_g2 := cf2 BK_g2; (try clear c_g3); replace BK_g3 := bb BK_g3 hb; have c_g3 := cf3 BK_g3; (try clear c_g4); replace BK_g4 := bb BK_g4 hb; have c_g4 := cf2 BK_g4; replace HO := bR HO hb; have BK_g8 := am hbox; have c_g8 := cf5 BK_g8; clear hb hbox hg_; (try clear q0); have q0 := pw_cell_below HB.out Q0.out; (try clear s0 s1); obtain ⟨s0, s1⟩ := stk_at2 HO.out m (by omega) _ _ HXM.out) | ((with_reducible refine gate_store (t := 47) (p := 8) rfl ?_); refine store_event (t := 47) (p := 8) (v := ?vo_W5_23) (w1 := ?w1_W5_24) ?hg ?ho ?hn ?hr ?_; (case ho => rfl); (case hg => rfl); (case hn => rfl); (case hr => first | (go_simp; done) | (go_simp; rfl)); intro W5 hw; have hk := kb5 hw; replace HO := am (Kd.R_mono (Kd.R_keep (Kd.R_types HO.out BK_g8.out (by decide)) hk (fun _ h_ => h_.2)) (fun _ h_ => h_.1)); replace HB := sb5 HB GE_g8 hw; (try clear c_g2); replace BK_g2 := bk BK_g2 hk NE_g2_g8; have c_g2 := cf2 BK_g2; (try clear c_g3); replace BK_g3 := bk BK_g3 hk NE_g3_g8; have c_g3 := cf3 BK_g3; (try clear c_g4); replace BK_g4 := bk BK_g4 hk NE_g4_g8; have c_g4 := cf2 BK_g4; (try clear c_g8); replace BK_g8 := bp5 BK_g8 hw; have c_g8 := cf5 BK_g8; clear hk hw; (try clear q0); have q0 := pw_cell_below HB.out Q0.out; (try clear s0 s1); obtain ⟨s0, s1⟩ := stk_at2 HO.out m (by omega) _ _ HXM.out) | (go_at_call 23; refine (num_Not b n _ (HG.out.below HB.out)).mono ?_; rintro e W6 ⟨rfl, hb⟩; replace HB := bs HB hb; (try clear c_g2); replace BK_g2 := bb BK_g2 hb; have c_g2 := cf2 BK_g2; (try clear c_g3); replace BK_g3 := bb BK_g3 hb; have c_g3 := cf3 BK_g3; (try clear c_g4); replace BK_g4 := bb BK_g4 hb; have c_g4 := cf2 BK_g4; (try clear c_g8); replace BK_g8 := bb BK_g8 hb; have c_g8 := cf5 BK_g8; replace HO := bR HO hb; clear hb; (try clear q0); have q0 := pw_cell_below HB.out Q0.out; (try clear s0 s1); obtain ⟨s0, s1⟩ := stk_at2 HO.out m (by omega) _ _ HXM.out) | ((with_reducible refine gate_store (t := 50) (p := 130) rfl ?_); refine Kd.R_store k50 (w0 := w) w.heap.size rfl rfl 50 _ _ rfl 50 (o' := m * 2) (((m : Nat) : Int) : Int) 0 xs (stV (notV b n)) (.agg #[.bool (notV b n).1, .int .i64 (notV b n).2]) [.bool (notV b n).1, .int .i64 (notV b n).2] [.bool b, .int .i64 n] (fun q_ => q_ ≠ g4) (fun _ => False) ?sa ?so rfl rfl ?st ?s1 HO.out ?s0 ?si rfl ?sc ?sj ?sm (fun _ h_ => h_.elim) HB.out ?_; (case sa => rfl); (case so => rw [Int.toNat_natCast]; rfl); (case st => kernel_rfl); (case s1 => intro q_ hq_; simp at hq_; rcases hq_ with rfl | rfl <;> rfl); (case s0 => omega); (case si => simp <;> omega); (case sc => rw [Int.toNat_natCast]; exact seg2_ s0 s1); (case sj => exact Nat.le_refl _); (case sm => exact k50_mkM _ _ _ _); intro W7 ho hb hg; rw [Int.toNat_natCast] at ho; have HOq := HO; clear HO; have HO := am ho; have HBn := am hb; clear ho hb; replace HB := am (HBn.out); (try clear c_g2); replace BK_g2 := am (blk_grown BK_g2.out hg (Kd.R_ne HOq.out BK_g2.out (by decide))); have c_g2 := cf2 BK_g2; (try clear c_g3); replace BK_g3 := am (blk_grown BK_g3.out hg (Kd.R_ne HOq.out BK_g3.out (by decide))); have c_g3 := cf3 BK_g3; (try clear c_g4); replace BK_g4 := am (blk_grown BK_g4.out hg (Kd.R_away HOq.out (fun _ h_ => h_))); have c_g4 := cf2 BK_g4; (try clear c_g8); replace BK_g8 := am (blk_grown BK_g8.out hg (Kd.R_ne HOq.out BK_g8.out (by decide))); have c_g8 := cf5 BK_g8; (try clear q0); have q0 := pw_cell_below HB.out Q0.out; clear hg HBn HOq))
     go_roundw
     case rel => exact ⟨k + 1, d', _, by first | rfl | go_num | (congr 1; omega), by omega, ⟨by have := HDK.out; omega⟩, ⟨HE.out.symm⟩, HO, ⟨by simp only [List.length_set]; have := HX.out; omega⟩, HB, BK_g2, BK_g3, BK_g4⟩
     case measure => exact mu_ hlt (by omega)
   have e11 : (i0 == 11) = false := by simpa using h11
   by_cases h12 : 12 ≤ i0 ∧ i0 ≤ 24
   ·have e25 : decide (25 ≤ i0) = false := by simp; omega
    have Q0 := am (show w.cell? ⟨0, i0.toNat, none⟩ = some (Value.int .i64 (2)) from by rw [HG.out.operands _ (by omega), tOp2 i0 (by omega) (by omega)])
    have q0 := pw_cell_below HB.out Q0.out
    by_cases hl : xs.length < 2
    ·as_aux_lemma =>
      have eL : decide ((xs.length : Int) < 2) = true := by simp; omega
      obtain ⟨AS, cs_, rfl⟩ := Kd.R_slice HO.out
      have HE := am (show runV code cols L each at_ = ((false, 0), 70) from by rw [HT.out, s_few HI.out n0 n27 (.inr (by rw [tOp2 i0 (by omega) (by omega)]; omega))])
      go_wp2_with (first | ((with_reducible refine gate_dst (N := 8) rfl ?_); refine box_event ?hg (N := 8) ?hd (cs := #[.int .i64 0, .int .i64 0, .int .i64 0, .int .i64 0, .int .i64 0]) (t := 47) ?hr ?_; (case hd => rfl); (case hg => rfl); (case hr => first | (go_simp; done) | (go_simp; rfl)); intro g8 hg_ W4 hbox hb; have GE_g8 := ge1 hg_ HB; have NE_g8_g2 := ne1 hg_ BK_g2; have NE_g2_g8 := ne2 NE_g8_g2; have NE_g8_g3 := ne1 hg_ BK_g3; have NE_g3_g8 := ne2 NE_g8_g3; have NE_g8_g4 := ne1 hg_ BK_g4; have NE_g4_g8 := ne2 NE_g8_g4; replace HB := bs HB hb; (try clear c_g2); replace BK_g2 := bb BK_g2 hb; have c_g2 := cf2 BK_g2; (try clear c_g3); replace BK_g3 := bb BK_g3 hb; have c_g3 := cf3 BK_g3; (try clear c_g4); replace BK_g4 := bb BK_g4 hb; have c_g4 := cf2 BK_g4; replace HO := bR HO hb; have BK_g8 := am hbox; have c_g8 := cf5 BK_g8; clear hb hbox hg_; (try clear q0); have q0 := pw_cell_below HB.out Q0.out) | ((with_reducible refine gate_store (t := 47) (p := 8) rfl ?_); refine store_event (t := 47) (p := 8) (v := ?vo_W5_25) (w1 := ?w1_W5_26) ?hg ?ho ?hn ?hr ?_; (case ho => rfl); (case hg => rfl); (case hn => rfl); (case hr => first | (go_simp; done) | (go_simp; rfl)); intro W5 hw; have hk := kb5 hw; replace HO := am (Kd.R_mono (Kd.R_keep (Kd.R_types HO.out BK_g8.out (by decide)) hk (fun _ h_ => h_.2)) (fun _ h_ => h_.1)); replace HB := sb5 HB GE_g8 hw; (try clear c_g2); replace BK_g2 := bk BK_g2 hk NE_g2_g8; have c_g2 := cf2 BK_g2; (try clear c_g3); replace BK_g3 := bk BK_g3 hk NE_g3_g8; have c_g3 := cf3 BK_g3; (try clear c_g4); replace BK_g4 := bk BK_g4 hk NE_g4_g8; have c_g4 := cf2 BK_g4; (try clear c_g8); replace BK_g8 := bp5 BK_g8 hw; have c_g8 := cf5 BK_g8; clear hk hw; (try clear q0); have q0 := pw_cell_below HB.out Q0.out))
      try rw [Exit.noGoto_ret]
      refine bodyPost_ret (v := .tuple #[.agg #[.bool false, .int .i64 0], .int .i64 70]) (by simp [results, Tryd.results10, go_sem, *]) rfl ⟨by rw [HE.out], ?_⟩
      exact below_set (below_set HB.out GE_g4.out) GE_g4.out
    obtain ⟨m, hm⟩ : ∃ m, xs.length = m + 1 + 1 := ⟨xs.length - 2, by omega⟩
    obtain ⟨gs, cap, rfl⟩ := stk_form HO.out (m + 1) hm
    have eL : decide ((m : Int) + 1 + 1 < 2) = false := by simp; omega
    have eT1 : wrap64 ((m : Int) + 1 + 1 - 1) = (m : Int) + 1 := by rw [show (m : Int) + 1 + 1 - 1 = m + 1 by omega]; exact IntWalk.wrap64_in _ (by have := HX.out; have := HS.out; omega)
    have eT2 : wrap64 ((m : Int) + 1) = (m : Int) + 1 := IntWalk.wrap64_in _ (by have := HX.out; have := HS.out; omega)
    have eT3 : wrap64 (m : Int) = (m : Int) := IntWalk.wrap64_in _ (by have := HX.out; have := HS.out; omega)
    have eT4 : wrap64 ((m : Int) + 1 - 1) = (m : Int) := by rw [show (m : Int) + 1 - 1 = m by omega]; exact eT3
    have hcap := (Kd.R_reads' HO.out).2.1
    have eW : IntKind.i64.wrap (m : Int) = (m : Int) := by rw [IntWalk.i64_left]; exact eT3
    have eI1 : (m : Int) < (m : Int) + 1 + 1 := by omega
    have eI2 : (0 : Int) ≤ (m : Int) + 1 := by omega
    have eI3 : (m : Int) + 1 < (m : Int) + 1 + 1 := by omega
    have eI4 : (m : Int) + 1 ≤ (cap : Int) := by omega
    have eI5 : m + 1 ≤ cap := by omega
    obtain ⟨⟨b, n⟩, hx_⟩ : ∃ q, xs.getD m z50 = q := ⟨_, rfl⟩
    obtain ⟨⟨b', n'⟩, hy_⟩ : ∃ q, xs.getD (m + 1) z50 = q := ⟨_, rfl⟩
    have HXM := am hx_
    have HYM := am hy_
    clear hx_ hy_
    obtain ⟨s0, s1⟩ := stk_at2 HO.out m (by omega) b n HXM.out
    obtain ⟨s2, s3⟩ := stk_at2 HO.out (m + 1) (by omega) b' n' HYM.out
    have HE := am (HT.out.trans (by rw [s_app HI.out h12.1 h12.2 hm HXM.out HYM.out]))
    go_wp2_with (first | ((with_reducible refine gate_dst (N := 8) rfl ?_); refine box_event ?hg (N := 8) ?hd (cs := #[.int .i64 0, .int .i64 0, .int .i64 0, .int .i64 0, .int .i64 0]) (t := 47) ?hr ?_; (case hd => rfl); (case hg => rfl); (case hr => first | (go_simp; done) | (go_simp; rfl)); intro g8 hg_ W4 hbox hb; have GE_g8 := ge1 hg_ HB; have NE_g8_g2 := ne1 hg_ BK_g2; have NE_g2_g8 := ne2 NE_g8_g2; have NE_g8_g3 := ne1 hg_ BK_g3; have NE_g3_g8 := ne2 NE_g8_g3; have NE_g8_g4 := ne1 hg_ BK_g4; have NE_g4_g8 := ne2 NE_g8_g4; replace HB := bs HB hb; (try clear c_g2); replace BK_g2 := bb BK_g2 hb; have c_g2 := cf2 BK_g2; (try clear c_g3); replace BK_g3 := bb BK_g3 hb; have c_g3 := cf3 BK_g3; (try clear c_g4); replace BK_g4 := bb BK_g4 hb; have c_g4 := cf2 BK_g4; replace HO := bR HO hb; have BK_g8 := am hbox; have c_g8 := cf5 BK_g8; clear hb hbox hg_; (try clear q0); have q0 := pw_cell_below HB.out Q0.out; (try clear s0 s1); obtain ⟨s0, s1⟩ := stk_at2 HO.out m (by omega) _ _ HXM.out; (try clear s2 s3); obtain ⟨s2, s3⟩ := stk_at2 HO.out (m + 1) (by omega) _ _ HYM.out; (try clear sf0 sf1); obtain ⟨_, _, sf0, sf1⟩ := stk_at HO.out m (by omega)) | ((with_reducible refine gate_store (t := 47) (p := 8) rfl ?_); refine store_event (t := 47) (p := 8) (v := ?vo_W5_27) (w1 := ?w1_W5_28) ?hg ?ho ?hn ?hr ?_; (case ho => rfl); (case hg => rfl); (case hn => rfl); (case hr => first | (go_simp; done) | (go_simp; rfl)); intro W5 hw; have hk := kb5 hw; replace HO := am (Kd.R_mono (Kd.R_keep (Kd.R_types HO.out BK_g8.out (by decide)) hk (fun _ h_ => h_.2)) (fun _ h_ => h_.1)); replace HB := sb5 HB GE_g8 hw; (try clear c_g2); replace BK_g2 := bk BK_g2 hk NE_g2_g8; have c_g2 := cf2 BK_g2; (try clear c_g3); replace BK_g3 := bk BK_g3 hk NE_g3_g8; have c_g3 := cf3 BK_g3; (try clear c_g4); replace BK_g4 := bk BK_g4 hk NE_g4_g8; have c_g4 := cf2 BK_g4; (try clear c_g8); replace BK_g8 := bp5 BK_g8 hw; have c_g8 := cf5 BK_g8; clear hk hw; (try clear q0); have q0 := pw_cell_below HB.out Q0.out; (try clear s0 s1); obtain ⟨s0, s1⟩ := stk_at2 HO.out m (by omega) _ _ HXM.out; (try clear s2 s3); obtain ⟨s2, s3⟩ := stk_at2 HO.out (m + 1) (by omega) _ _ HYM.out; (try clear sf0 sf1); obtain ⟨_, _, sf0, sf1⟩ := stk_at HO.out m (by omega)))
    go_region_with ((go_at_call 24; simp only [IntWalk.i64_left]; have hd := below_drew1 (Below.refl W5.heap.size W5); replace HB := am (below_step HB.out hd); (try clear c_g2); replace BK_g2 := am (blk_below BK_g2.out hd); have c_g2_0 : W5.drew.cell? ⟨g2, 0, none⟩ = some (.slice (some ad) code.length c) := (blk_cell BK_g2.out 0).trans rfl; have f_g2_0 := blk_frozen BK_g2.out 0; have c_g2_1 : W5.drew.cell? ⟨g2, 1, none⟩ = some (.slice B cols.length c2) := (blk_cell BK_g2.out 1).trans rfl; have f_g2_1 := blk_frozen BK_g2.out 1; (try clear c_g3); replace BK_g3 := am (blk_below BK_g3.out hd); have c_g3_0 : W5.drew.cell? ⟨g3, 0, none⟩ = some (.slice AL L.length cL) := (blk_cell BK_g3.out 0).trans rfl; have f_g3_0 := blk_frozen BK_g3.out 0; have c_g3_1 : W5.drew.cell? ⟨g3, 1, none⟩ = some (.int .i64 each) := (blk_cell BK_g3.out 1).trans rfl; have f_g3_1 := blk_frozen BK_g3.out 1; have c_g3_2 : W5.drew.cell? ⟨g3, 2, none⟩ = some (.int .i64 at_) := (blk_cell BK_g3.out 2).trans rfl; have f_g3_2 := blk_frozen BK_g3.out 2; (try clear c_g4); replace BK_g4 := am (blk_below BK_g4.out hd); have c_g4_0 : W5.drew.cell? ⟨g4, 0, none⟩ = some (.bool false) := (blk_cell BK_g4.out 0).trans rfl; have f_g4_0 := blk_frozen BK_g4.out 0; have c_g4_1 : W5.drew.cell? ⟨g4, 1, none⟩ = some (.int .i64 0) := (blk_cell BK_g4.out 1).trans rfl; have f_g4_1 := blk_frozen BK_g4.out 1; (try clear c_g8); replace BK_g8 := am (blk_below BK_g8.out hd); have c_g8_0 : W5.drew.cell? ⟨g8, 0, none⟩ = some (.int .i64 i0) := (blk_cell BK_g8.out 0).trans rfl; have f_g8_0 := blk_frozen BK_g8.out 0; have c_g8_1 : W5.drew.cell? ⟨g8, 1, none⟩ = some (.int .i64 i1) := (blk_cell BK_g8.out 1).trans rfl; have f_g8_1 := blk_frozen BK_g8.out 1; have c_g8_2 : W5.drew.cell? ⟨g8, 2, none⟩ = some (.int .i64 i2) := (blk_cell BK_g8.out 2).trans rfl; have f_g8_2 := blk_frozen BK_g8.out 2; have c_g8_3 : W5.drew.cell? ⟨g8, 3, none⟩ = some (.int .i64 i3) := (blk_cell BK_g8.out 3).trans rfl; have f_g8_3 := blk_frozen BK_g8.out 3; have c_g8_4 : W5.drew.cell? ⟨g8, 4, none⟩ = some (.int .i64 i4) := (blk_cell BK_g8.out 4).trans rfl; have f_g8_4 := blk_frozen BK_g8.out 4; replace HO := am (Kd.R_below HO.out hd); (try clear q0); have q0 := pw_cell_below HB.out Q0.out; (try clear s0 s1); obtain ⟨s0, s1⟩ := stk_at2 HO.out m (by omega) _ _ HXM.out; (try clear s2 s3); obtain ⟨s2, s3⟩ := stk_at2 HO.out (m + 1) (by omega) _ _ HYM.out; (try clear sf0 sf1); obtain ⟨_, _, sf0, sf1⟩ := stk_at HO.out m (by omega); clear hd; refine (num_Apply _ b n b' n' _ (HG.out.below HB.out)).mono ?_; rintro e W6 ⟨rfl, hb⟩; replace HB := bs HB hb; (try clear c_g2); replace BK_g2 := bb BK_g2 hb; have c_g2 := cf2 BK_g2; (try clear c_g3); replace BK_g3 := bb BK_g3 hb; have c_g3 := cf3 BK_g3; (try clear c_g4); replace BK_g4 := bb BK_g4 hb; have c_g4 := cf2 BK_g4; (try clear c_g8); replace BK_g8 := bb BK_g8 hb; have c_g8 := cf5 BK_g8; replace HO := bR HO hb; clear hb; (try clear q0); have q0 := pw_cell_below HB.out Q0.out; (try clear s0 s1); obtain ⟨s0, s1⟩ := stk_at2 HO.out m (by omega) _ _ HXM.out; (try clear s2 s3); obtain ⟨s2, s3⟩ := stk_at2 HO.out (m + 1) (by omega) _ _ HYM.out; (try clear sf0 sf1); obtain ⟨_, _, sf0, sf1⟩ := stk_at HO.out m (by omega)))
    all_goals
     generalize hWD : (W6.setCell ⟨gs, m * 2, none⟩ (.bool (applyV (wrap64 (14 + wrap64 (i0 - 12))) b n b' n').1)).setCell ⟨gs, m * 2 + 1, none⟩ (.int .i64 (applyV (wrap64 (14 + wrap64 (i0 - 12))) b n b' n').2) = W7
     obtain ⟨ho, hg⟩ := Kd.R_seg (okp := fun _ => False) (j := 0) (c := [.bool b, .int .i64 n]) (seg := [.bool (applyV (wrap64 (14 + wrap64 (i0 - 12))) b n b' n').1, .int .i64 (applyV (wrap64 (14 + wrap64 (i0 - 12))) b n b' n').2]) (x' := stV (applyV (wrap64 (14 + wrap64 (i0 - 12))) b n b' n')) HO.out (m : Int) (by omega) (by simp <;> omega) rfl (by rw [Int.toNat_natCast]; exact seg2_ s0 s1) (Nat.le_refl _) (k50_mkM _ _ _ _) (fun _ h_ => h_.elim)
     have hWS : W6.setCells gs ((m : Int).toNat * k50.sz + 0) [.bool (applyV (wrap64 (14 + wrap64 (i0 - 12))) b n b' n').1, .int .i64 (applyV (wrap64 (14 + wrap64 (i0 - 12))) b n b' n').2] = W7 := by rw [← hWD, Int.toNat_natCast]; rfl
     rw [hWS, Int.toNat_natCast] at ho
     rw [hWS] at hg
     have hbg := Kd.R_base HO.out gs (by simp [Value.ownBlock])
     have hb : Below w.heap.size w W7 := by rw [← hWD]; exact below_set (below_set HB.out hbg) hbg
     clear hWD hWS hbg
     have HOq := HO; clear HO; have HO := am ho; have HBn := am hb; clear ho hb
     replace HB := am (HBn.out)
     (try clear c_g2)
     replace BK_g2 := am (blk_grown BK_g2.out hg (Kd.R_ne HOq.out BK_g2.out (by decide)))
     have c_g2 := cf2 BK_g2
     (try clear c_g3)
     replace BK_g3 := am (blk_grown BK_g3.out hg (Kd.R_ne HOq.out BK_g3.out (by decide)))
     have c_g3 := cf3 BK_g3
     (try clear c_g4)
     replace BK_g4 := am (blk_grown BK_g4.out hg (Kd.R_away HOq.out (fun _ h_ => h_)))
     have c_g4 := cf2 BK_g4
     (try clear c_g8)
     replace BK_g8 := am (blk_grown BK_g8.out hg (Kd.R_ne HOq.out BK_g8.out (by decide)))
     have c_g8 := cf5 BK_g8
     (try clear q0)
     have q0 := pw_cell_below HB.out Q0.out
     clear hg HBn HOq
     go_wp2
     go_roundw
     case rel => exact ⟨k + 1, d', _, by first | rfl | go_num | (congr 1; omega), by omega, ⟨by have := HDK.out; omega⟩, ⟨HE.out.symm⟩, ⟨Kd.R_take HO.out (by rw [List.length_set]; omega)⟩, ⟨by simp only [List.length_take, List.length_set]; have := HX.out; omega⟩, HB, BK_g2, BK_g3, BK_g4⟩
     case measure => exact mu_ hlt (by omega)
   have hj : i0 = 25 ∨ i0 = 26 := by omega
   have e25 : decide (25 ≤ i0) = true := by simp; omega
   have Q0 := am (show w.cell? ⟨0, i0.toNat, none⟩ = some (Value.int .i64 (1)) from by rw [HG.out.operands _ (by omega), tOp1 i0 (by omega)])
   have q0 := pw_cell_below HB.out Q0.out
   by_cases hl : xs.length < 1
   ·as_aux_lemma =>
     have eL : decide ((xs.length : Int) < 1) = true := by simp; omega
     obtain ⟨AS, cs_, rfl⟩ := Kd.R_slice HO.out
     have HE := am (show runV code cols L each at_ = ((false, 0), 70) from by rw [HT.out, s_few HI.out n0 n27 (.inr (by rw [tOp1 i0 (by omega)]; omega))])
     go_wp2_with (first | ((with_reducible refine gate_dst (N := 8) rfl ?_); refine box_event ?hg (N := 8) ?hd (cs := #[.int .i64 0, .int .i64 0, .int .i64 0, .int .i64 0, .int .i64 0]) (t := 47) ?hr ?_; (case hd => rfl); (case hg => rfl); (case hr => first | (go_simp; done) | (go_simp; rfl)); intro g8 hg_ W4 hbox hb; have GE_g8 := ge1 hg_ HB; have NE_g8_g2 := ne1 hg_ BK_g2; have NE_g2_g8 := ne2 NE_g8_g2; have NE_g8_g3 := ne1 hg_ BK_g3; have NE_g3_g8 := ne2 NE_g8_g3; have NE_g8_g4 := ne1 hg_ BK_g4; have NE_g4_g8 := ne2 NE_g8_g4; replace HB := bs HB hb; (try clear c_g2); replace BK_g2 := bb BK_g2 hb; have c_g2 := cf2 BK_g2; (try clear c_g3); replace BK_g3 := bb BK_g3 hb; have c_g3 := cf3 BK_g3; (try clear c_g4); replace BK_g4 := bb BK_g4 hb; have c_g4 := cf2 BK_g4; replace HO := bR HO hb; have BK_g8 := am hbox; have c_g8 := cf5 BK_g8; clear hb hbox hg_; (try clear q0); have q0 := pw_cell_below HB.out Q0.out) | ((with_reducible refine gate_store (t := 47) (p := 8) rfl ?_); refine store_event (t := 47) (p := 8) (v := ?vo_W5_29) (w1 := ?w1_W5_30) ?hg ?ho ?hn ?hr ?_; (case ho => rfl); (case hg => rfl); (case hn => rfl); (case hr => first | (go_simp; done) | (go_simp; rfl)); intro W5 hw; have hk := kb5 hw; replace HO := am (Kd.R_mono (Kd.R_keep (Kd.R_types HO.out BK_g8.out (by decide)) hk (fun _ h_ => h_.2)) (fun _ h_ => h_.1)); replace HB := sb5 HB GE_g8 hw; (try clear c_g2); replace BK_g2 := bk BK_g2 hk NE_g2_g8; have c_g2 := cf2 BK_g2; (try clear c_g3); replace BK_g3 := bk BK_g3 hk NE_g3_g8; have c_g3 := cf3 BK_g3; (try clear c_g4); replace BK_g4 := bk BK_g4 hk NE_g4_g8; have c_g4 := cf2 BK_g4; (try clear c_g8); replace BK_g8 := bp5 BK_g8 hw; have c_g8 := cf5 BK_g8; clear hk hw; (try clear q0); have q0 := pw_cell_below HB.out Q0.out))
     try rw [Exit.noGoto_ret]
     refine bodyPost_ret (v := .tuple #[.agg #[.bool false, .int .i64 0], .int .i64 70]) (by simp [results, Tryd.results10, go_sem, *]) rfl ⟨by rw [HE.out], ?_⟩
     exact below_set (below_set HB.out GE_g4.out) GE_g4.out
   as_aux_lemma =>
    obtain ⟨m, hm⟩ : ∃ m, xs.length = m + 1 := ⟨xs.length - 1, by omega⟩
    obtain ⟨gs, cap, rfl⟩ := stk_form HO.out m hm
    have eL : decide ((m : Int) + 1 < 1) = false := by simp; omega
    have eT1 : wrap64 ((m : Int) + 1 - 1) = (m : Int) := by rw [show (m : Int) + 1 - 1 = m by omega]; exact IntWalk.wrap64_in _ (by have := HX.out; have := HS.out; omega)
    have eT2 : wrap64 (m : Int) = (m : Int) := IntWalk.wrap64_in _ (by have := HX.out; have := HS.out; omega)
    obtain ⟨⟨b, n⟩, hx_⟩ : ∃ q, xs.getD m z50 = q := ⟨_, rfl⟩
    have HXM := am hx_
    clear hx_
    obtain ⟨s0, s1⟩ := stk_at2 HO.out m (by omega) b n HXM.out
    by_cases nj : i4 ≤ (k : Int)
    ·have eJ : decide (i4 ≤ (k : Int)) = true := by simpa using nj
     have HE := am (show runV code cols L each at_ = ((false, 0), 70) from by rw [HT.out, s_jbad HI.out hj hm (.inl nj)])
     go_wp2_with (first | ((with_reducible refine gate_dst (N := 8) rfl ?_); refine box_event ?hg (N := 8) ?hd (cs := #[.int .i64 0, .int .i64 0, .int .i64 0, .int .i64 0, .int .i64 0]) (t := 47) ?hr ?_; (case hd => rfl); (case hg => rfl); (case hr => first | (go_simp; done) | (go_simp; rfl)); intro g8 hg_ W4 hbox hb; have GE_g8 := ge1 hg_ HB; have NE_g8_g2 := ne1 hg_ BK_g2; have NE_g2_g8 := ne2 NE_g8_g2; have NE_g8_g3 := ne1 hg_ BK_g3; have NE_g3_g8 := ne2 NE_g8_g3; have NE_g8_g4 := ne1 hg_ BK_g4; have NE_g4_g8 := ne2 NE_g8_g4; replace HB := bs HB hb; (try clear c_g2); replace BK_g2 := bb BK_g2 hb; have c_g2 := cf2 BK_g2; (try clear c_g3); replace BK_g3 := bb BK_g3 hb; have c_g3 := cf3 BK_g3; (try clear c_g4); replace BK_g4 := bb BK_g4 hb; have c_g4 := cf2 BK_g4; replace HO := bR HO hb; have BK_g8 := am hbox; have c_g8 := cf5 BK_g8; clear hb hbox hg_; (try clear q0); have q0 := pw_cell_below HB.out Q0.out; (try clear s0 s1); obtain ⟨s0, s1⟩ := stk_at2 HO.out m (by omega) _ _ HXM.out) | ((with_reducible refine gate_store (t := 47) (p := 8) rfl ?_); refine store_event (t := 47) (p := 8) (v := ?vo_W5_35) (w1 := ?w1_W5_36) ?hg ?ho ?hn ?hr ?_; (case ho => rfl); (case hg => rfl); (case hn => rfl); (case hr => first | (go_simp; done) | (go_simp; rfl)); intro W5 hw; have hk := kb5 hw; replace HO := am (Kd.R_mono (Kd.R_keep (Kd.R_types HO.out BK_g8.out (by decide)) hk (fun _ h_ => h_.2)) (fun _ h_ => h_.1)); replace HB := sb5 HB GE_g8 hw; (try clear c_g2); replace BK_g2 := bk BK_g2 hk NE_g2_g8; have c_g2 := cf2 BK_g2; (try clear c_g3); replace BK_g3 := bk BK_g3 hk NE_g3_g8; have c_g3 := cf3 BK_g3; (try clear c_g4); replace BK_g4 := bk BK_g4 hk NE_g4_g8; have c_g4 := cf2 BK_g4; (try clear c_g8); replace BK_g8 := bp5 BK_g8 hw; have c_g8 := cf5 BK_g8; clear hk hw; (try clear q0); have q0 := pw_cell_below HB.out Q0.out; (try clear s0 s1); obtain ⟨s0, s1⟩ := stk_at2 HO.out m (by omega) _ _ HXM.out))
     try rw [Exit.noGoto_ret]
     refine bodyPost_ret (v := .tuple #[.agg #[.bool false, .int .i64 0], .int .i64 70]) (by simp [results, Tryd.results10, go_sem, *]) rfl ⟨by rw [HE.out], ?_⟩
     exact below_set (below_set HB.out GE_g4.out) GE_g4.out
    have eJ : decide (i4 ≤ (k : Int)) = false := by simp; omega
    by_cases nk : (code.length : Int) < i4
    ·have eJ2 : decide ((code.length : Int) < i4) = true := by simpa using nk
     have HE := am (show runV code cols L each at_ = ((false, 0), 70) from by rw [HT.out, s_jbad HI.out hj hm (.inr nk)])
     go_wp2_with (first | ((with_reducible refine gate_dst (N := 8) rfl ?_); refine box_event ?hg (N := 8) ?hd (cs := #[.int .i64 0, .int .i64 0, .int .i64 0, .int .i64 0, .int .i64 0]) (t := 47) ?hr ?_; (case hd => rfl); (case hg => rfl); (case hr => first | (go_simp; done) | (go_simp; rfl)); intro g8 hg_ W4 hbox hb; have GE_g8 := ge1 hg_ HB; have NE_g8_g2 := ne1 hg_ BK_g2; have NE_g2_g8 := ne2 NE_g8_g2; have NE_g8_g3 := ne1 hg_ BK_g3; have NE_g3_g8 := ne2 NE_g8_g3; have NE_g8_g4 := ne1 hg_ BK_g4; have NE_g4_g8 := ne2 NE_g8_g4; replace HB := bs HB hb; (try clear c_g2); replace BK_g2 := bb BK_g2 hb; have c_g2 := cf2 BK_g2; (try clear c_g3); replace BK_g3 := bb BK_g3 hb; have c_g3 := cf3 BK_g3; (try clear c_g4); replace BK_g4 := bb BK_g4 hb; have c_g4 := cf2 BK_g4; replace HO := bR HO hb; have BK_g8 := am hbox; have c_g8 := cf5 BK_g8; clear hb hbox hg_; (try clear q0); have q0 := pw_cell_below HB.out Q0.out; (try clear s0 s1); obtain ⟨s0, s1⟩ := stk_at2 HO.out m (by omega) _ _ HXM.out) | ((with_reducible refine gate_store (t := 47) (p := 8) rfl ?_); refine store_event (t := 47) (p := 8) (v := ?vo_W5_37) (w1 := ?w1_W5_38) ?hg ?ho ?hn ?hr ?_; (case ho => rfl); (case hg => rfl); (case hn => rfl); (case hr => first | (go_simp; done) | (go_simp; rfl)); intro W5 hw; have hk := kb5 hw; replace HO := am (Kd.R_mono (Kd.R_keep (Kd.R_types HO.out BK_g8.out (by decide)) hk (fun _ h_ => h_.2)) (fun _ h_ => h_.1)); replace HB := sb5 HB GE_g8 hw; (try clear c_g2); replace BK_g2 := bk BK_g2 hk NE_g2_g8; have c_g2 := cf2 BK_g2; (try clear c_g3); replace BK_g3 := bk BK_g3 hk NE_g3_g8; have c_g3 := cf3 BK_g3; (try clear c_g4); replace BK_g4 := bk BK_g4 hk NE_g4_g8; have c_g4 := cf2 BK_g4; (try clear c_g8); replace BK_g8 := bp5 BK_g8 hw; have c_g8 := cf5 BK_g8; clear hk hw; (try clear q0); have q0 := pw_cell_below HB.out Q0.out; (try clear s0 s1); obtain ⟨s0, s1⟩ := stk_at2 HO.out m (by omega) _ _ HXM.out))
     try rw [Exit.noGoto_ret]
     refine bodyPost_ret (v := .tuple #[.agg #[.bool false, .int .i64 0], .int .i64 70]) (by simp [results, Tryd.results10, go_sem, *]) rfl ⟨by rw [HE.out], ?_⟩
     exact below_set (below_set HB.out GE_g4.out) GE_g4.out
    have eJ2 : decide ((code.length : Int) < i4) = false := by simp; omega
    have hnj : ¬ (i4 ≤ (k : Int) ∨ (code.length : Int) < i4) := by omega
    cases b with
    | false =>
     have HE := am (HT.out.trans (by rw [s_jstay HI.out hj hm hnj HXM.out (by simp)]))
     go_wp2_with (first | ((with_reducible refine gate_dst (N := 8) rfl ?_); refine box_event ?hg (N := 8) ?hd (cs := #[.int .i64 0, .int .i64 0, .int .i64 0, .int .i64 0, .int .i64 0]) (t := 47) ?hr ?_; (case hd => rfl); (case hg => rfl); (case hr => first | (go_simp; done) | (go_simp; rfl)); intro g8 hg_ W4 hbox hb; have GE_g8 := ge1 hg_ HB; have NE_g8_g2 := ne1 hg_ BK_g2; have NE_g2_g8 := ne2 NE_g8_g2; have NE_g8_g3 := ne1 hg_ BK_g3; have NE_g3_g8 := ne2 NE_g8_g3; have NE_g8_g4 := ne1 hg_ BK_g4; have NE_g4_g8 := ne2 NE_g8_g4; replace HB := bs HB hb; (try clear c_g2); replace BK_g2 := bb BK_g2 hb; have c_g2 := cf2 BK_g2; (try clear c_g3); replace BK_g3 := bb BK_g3 hb; have c_g3 := cf3 BK_g3; (try clear c_g4); replace BK_g4 := bb BK_g4 hb; have c_g4 := cf2 BK_g4; replace HO := bR HO hb; have BK_g8 := am hbox; have c_g8 := cf5 BK_g8; clear hb hbox hg_; (try clear q0); have q0 := pw_cell_below HB.out Q0.out; (try clear s0 s1); obtain ⟨s0, s1⟩ := stk_at2 HO.out m (by omega) _ _ HXM.out) | ((with_reducible refine gate_store (t := 47) (p := 8) rfl ?_); refine store_event (t := 47) (p := 8) (v := ?vo_W5_39) (w1 := ?w1_W5_40) ?hg ?ho ?hn ?hr ?_; (case ho => rfl); (case hg => rfl); (case hn => rfl); (case hr => first | (go_simp; done) | (go_simp; rfl)); intro W5 hw; have hk := kb5 hw; replace HO := am (Kd.R_mono (Kd.R_keep (Kd.R_types HO.out BK_g8.out (by decide)) hk (fun _ h_ => h_.2)) (fun _ h_ => h_.1)); replace HB := sb5 HB GE_g8 hw; (try clear c_g2); replace BK_g2 := bk BK_g2 hk NE_g2_g8; have c_g2 := cf2 BK_g2; (try clear c_g3); replace BK_g3 := bk BK_g3 hk NE_g3_g8; have c_g3 := cf3 BK_g3; (try clear c_g4); replace BK_g4 := bk BK_g4 hk NE_g4_g8; have c_g4 := cf2 BK_g4; (try clear c_g8); replace BK_g8 := bp5 BK_g8 hw; have c_g8 := cf5 BK_g8; clear hk hw; (try clear q0); have q0 := pw_cell_below HB.out Q0.out; (try clear s0 s1); obtain ⟨s0, s1⟩ := stk_at2 HO.out m (by omega) _ _ HXM.out))
     go_quiet (fail)
     generalize hWD : W5.drewN nq = W6
     have hb : Below W5.heap.size W5 W6 := by rw [← hWD]; exact pw_below_drewN (Below.refl _ _) nq
     clear hWD
     replace HB := bs HB hb
     (try clear c_g2)
     replace BK_g2 := bb BK_g2 hb
     have c_g2 := cf2 BK_g2
     (try clear c_g3)
     replace BK_g3 := bb BK_g3 hb
     have c_g3 := cf3 BK_g3
     (try clear c_g4)
     replace BK_g4 := bb BK_g4 hb
     have c_g4 := cf2 BK_g4
     (try clear c_g8)
     replace BK_g8 := bb BK_g8 hb
     have c_g8 := cf5 BK_g8
     replace HO := bR HO hb
     (try clear q0)
     have q0 := pw_cell_below HB.out Q0.out
     (try clear s0 s1)
     obtain ⟨s0, s1⟩ := stk_at2 HO.out m (by omega) _ _ HXM.out
     clear hb
     go_wp2
     go_roundw
     case rel => exact ⟨k + 1, d', _, by first | rfl | go_num | (congr 1; omega), by omega, ⟨by have := HDK.out; omega⟩, ⟨HE.out.symm⟩, HO, ⟨by have := HX.out; omega⟩, HB, BK_g2, BK_g3, BK_g4⟩
     case measure => exact mu_ hlt (by omega)
    | true =>
     cases eN : (n != 0) <;> cases e26 : (i0 == 26)
     ·have HE := am (HT.out.trans (by rw [s_jtake HI.out hj hm hnj HXM.out (by rw [eN, e26]; simp)]))
      go_wp2_with (first | ((with_reducible refine gate_dst (N := 8) rfl ?_); refine box_event ?hg (N := 8) ?hd (cs := #[.int .i64 0, .int .i64 0, .int .i64 0, .int .i64 0, .int .i64 0]) (t := 47) ?hr ?_; (case hd => rfl); (case hg => rfl); (case hr => first | (go_simp; done) | (go_simp; rfl)); intro g8 hg_ W4 hbox hb; have GE_g8 := ge1 hg_ HB; have NE_g8_g2 := ne1 hg_ BK_g2; have NE_g2_g8 := ne2 NE_g8_g2; have NE_g8_g3 := ne1 hg_ BK_g3; have NE_g3_g8 := ne2 NE_g8_g3; have NE_g8_g4 := ne1 hg_ BK_g4; have NE_g4_g8 := ne2 NE_g8_g4; replace HB := bs HB hb; (try clear c_g2); replace BK_g2 := bb BK_g2 hb; have c_g2 := cf2 BK_g2; (try clear c_g3); replace BK_g3 := bb BK_g3 hb; have c_g3 := cf3 BK_g3; (try clear c_g4); replace BK_g4 := bb BK_g4 hb; have c_g4 := cf2 BK_g4; replace HO := bR HO hb; have BK_g8 := am hbox; have c_g8 := cf5 BK_g8; clear hb hbox hg_; (try clear q0); have q0 := pw_cell_below HB.out Q0.out; (try clear s0 s1); obtain ⟨s0, s1⟩ := stk_at2 HO.out m (by omega) _ _ HXM.out) | ((with_reducible refine gate_store (t := 47) (p := 8) rfl ?_); refine store_event (t := 47) (p := 8) (v := ?vo_W5_41) (w1 := ?w1_W5_42) ?hg ?ho ?hn ?hr ?_; (case ho => rfl); (case hg => rfl); (case hn => rfl); (case hr => first | (go_simp; done) | (go_simp; rfl)); intro W5 hw; have hk := kb5 hw; replace HO := am (Kd.R_mono (Kd.R_keep (Kd.R_types HO.out BK_g8.out (by decide)) hk (fun _ h_ => h_.2)) (fun _ h_ => h_.1)); replace HB := sb5 HB GE_g8 hw; (try clear c_g2); replace BK_g2 := bk BK_g2 hk NE_g2_g8; have c_g2 := cf2 BK_g2; (try clear c_g3); replace BK_g3 := bk BK_g3 hk NE_g3_g8; have c_g3 := cf3 BK_g3; (try clear c_g4); replace BK_g4 := bk BK_g4 hk NE_g4_g8; have c_g4 := cf2 BK_g4; (try clear c_g8); replace BK_g8 := bp5 BK_g8 hw; have c_g8 := cf5 BK_g8; clear hk hw; (try clear q0); have q0 := pw_cell_below HB.out Q0.out; (try clear s0 s1); obtain ⟨s0, s1⟩ := stk_at2 HO.out m (by omega) _ _ HXM.out))
      go_quiet (fail)
      generalize hWD : W5.drewN nq = W6
      have hb : Below W5.heap.size W5 W6 := by rw [← hWD]; exact pw_below_drewN (Below.refl _ _) nq
      clear hWD
      replace HB := bs HB hb
      (try clear c_g2)
      replace BK_g2 := bb BK_g2 hb
      have c_g2 := cf2 BK_g2
      (try clear c_g3)
      replace BK_g3 := bb BK_g3 hb
      have c_g3 := cf3 BK_g3
      (try clear c_g4)
      replace BK_g4 := bb BK_g4 hb
      have c_g4 := cf2 BK_g4
      (try clear c_g8)
      replace BK_g8 := bb BK_g8 hb
      have c_g8 := cf5 BK_g8
      replace HO := bR HO hb
      (try clear q0)
      have q0 := pw_cell_below HB.out Q0.out
      (try clear s0 s1)
      obtain ⟨s0, s1⟩ := stk_at2 HO.out m (by omega) _ _ HXM.out
      clear hb
      go_wp2
      go_roundw
      case rel => exact ⟨i4.toNat, d', _, by first | rfl | go_num | (congr 1; omega), by omega, ⟨by have := HDK.out; omega⟩, ⟨HE.out.symm⟩, HO, ⟨by have := HX.out; omega⟩, HB, BK_g2, BK_g3, BK_g4⟩
      case measure => exact mu_ hlt (by omega)
     ·have HE := am (HT.out.trans (by rw [s_jstay HI.out hj hm hnj HXM.out (by rw [eN, e26]; simp)]))
      go_wp2_with (first | ((with_reducible refine gate_dst (N := 8) rfl ?_); refine box_event ?hg (N := 8) ?hd (cs := #[.int .i64 0, .int .i64 0, .int .i64 0, .int .i64 0, .int .i64 0]) (t := 47) ?hr ?_; (case hd => rfl); (case hg => rfl); (case hr => first | (go_simp; done) | (go_simp; rfl)); intro g8 hg_ W4 hbox hb; have GE_g8 := ge1 hg_ HB; have NE_g8_g2 := ne1 hg_ BK_g2; have NE_g2_g8 := ne2 NE_g8_g2; have NE_g8_g3 := ne1 hg_ BK_g3; have NE_g3_g8 := ne2 NE_g8_g3; have NE_g8_g4 := ne1 hg_ BK_g4; have NE_g4_g8 := ne2 NE_g8_g4; replace HB := bs HB hb; (try clear c_g2); replace BK_g2 := bb BK_g2 hb; have c_g2 := cf2 BK_g2; (try clear c_g3); replace BK_g3 := bb BK_g3 hb; have c_g3 := cf3 BK_g3; (try clear c_g4); replace BK_g4 := bb BK_g4 hb; have c_g4 := cf2 BK_g4; replace HO := bR HO hb; have BK_g8 := am hbox; have c_g8 := cf5 BK_g8; clear hb hbox hg_; (try clear q0); have q0 := pw_cell_below HB.out Q0.out; (try clear s0 s1); obtain ⟨s0, s1⟩ := stk_at2 HO.out m (by omega) _ _ HXM.out) | ((with_reducible refine gate_store (t := 47) (p := 8) rfl ?_); refine store_event (t := 47) (p := 8) (v := ?vo_W5_43) (w1 := ?w1_W5_44) ?hg ?ho ?hn ?hr ?_; (case ho => rfl); (case hg => rfl); (case hn => rfl); (case hr => first | (go_simp; done) | (go_simp; rfl)); intro W5 hw; have hk := kb5 hw; replace HO := am (Kd.R_mono (Kd.R_keep (Kd.R_types HO.out BK_g8.out (by decide)) hk (fun _ h_ => h_.2)) (fun _ h_ => h_.1)); replace HB := sb5 HB GE_g8 hw; (try clear c_g2); replace BK_g2 := bk BK_g2 hk NE_g2_g8; have c_g2 := cf2 BK_g2; (try clear c_g3); replace BK_g3 := bk BK_g3 hk NE_g3_g8; have c_g3 := cf3 BK_g3; (try clear c_g4); replace BK_g4 := bk BK_g4 hk NE_g4_g8; have c_g4 := cf2 BK_g4; (try clear c_g8); replace BK_g8 := bp5 BK_g8 hw; have c_g8 := cf5 BK_g8; clear hk hw; (try clear q0); have q0 := pw_cell_below HB.out Q0.out; (try clear s0 s1); obtain ⟨s0, s1⟩ := stk_at2 HO.out m (by omega) _ _ HXM.out))
      go_quiet (fail)
      generalize hWD : W5.drewN nq = W6
      have hb : Below W5.heap.size W5 W6 := by rw [← hWD]; exact pw_below_drewN (Below.refl _ _) nq
      clear hWD
      replace HB := bs HB hb
      (try clear c_g2)
      replace BK_g2 := bb BK_g2 hb
      have c_g2 := cf2 BK_g2
      (try clear c_g3)
      replace BK_g3 := bb BK_g3 hb
      have c_g3 := cf3 BK_g3
      (try clear c_g4)
      replace BK_g4 := bb BK_g4 hb
      have c_g4 := cf2 BK_g4
      (try clear c_g8)
      replace BK_g8 := bb BK_g8 hb
      have c_g8 := cf5 BK_g8
      replace HO := bR HO hb
      (try clear q0)
      have q0 := pw_cell_below HB.out Q0.out
      (try clear s0 s1)
      obtain ⟨s0, s1⟩ := stk_at2 HO.out m (by omega) _ _ HXM.out
      clear hb
      go_wp2
      go_roundw
      case rel => exact ⟨k + 1, d', _, by first | rfl | go_num | (congr 1; omega), by omega, ⟨by have := HDK.out; omega⟩, ⟨HE.out.symm⟩, HO, ⟨by have := HX.out; omega⟩, HB, BK_g2, BK_g3, BK_g4⟩
      case measure => exact mu_ hlt (by omega)
     ·have HE := am (HT.out.trans (by rw [s_jstay HI.out hj hm hnj HXM.out (by rw [eN, e26]; simp)]))
      go_wp2_with (first | ((with_reducible refine gate_dst (N := 8) rfl ?_); refine box_event ?hg (N := 8) ?hd (cs := #[.int .i64 0, .int .i64 0, .int .i64 0, .int .i64 0, .int .i64 0]) (t := 47) ?hr ?_; (case hd => rfl); (case hg => rfl); (case hr => first | (go_simp; done) | (go_simp; rfl)); intro g8 hg_ W4 hbox hb; have GE_g8 := ge1 hg_ HB; have NE_g8_g2 := ne1 hg_ BK_g2; have NE_g2_g8 := ne2 NE_g8_g2; have NE_g8_g3 := ne1 hg_ BK_g3; have NE_g3_g8 := ne2 NE_g8_g3; have NE_g8_g4 := ne1 hg_ BK_g4; have NE_g4_g8 := ne2 NE_g8_g4; replace HB := bs HB hb; (try clear c_g2); replace BK_g2 := bb BK_g2 hb; have c_g2 := cf2 BK_g2; (try clear c_g3); replace BK_g3 := bb BK_g3 hb; have c_g3 := cf3 BK_g3; (try clear c_g4); replace BK_g4 := bb BK_g4 hb; have c_g4 := cf2 BK_g4; replace HO := bR HO hb; have BK_g8 := am hbox; have c_g8 := cf5 BK_g8; clear hb hbox hg_; (try clear q0); have q0 := pw_cell_below HB.out Q0.out; (try clear s0 s1); obtain ⟨s0, s1⟩ := stk_at2 HO.out m (by omega) _ _ HXM.out) | ((with_reducible refine gate_store (t := 47) (p := 8) rfl ?_); refine store_event (t := 47) (p := 8) (v := ?vo_W5_45) (w1 := ?w1_W5_46) ?hg ?ho ?hn ?hr ?_; (case ho => rfl); (case hg => rfl); (case hn => rfl); (case hr => first | (go_simp; done) | (go_simp; rfl)); intro W5 hw; have hk := kb5 hw; replace HO := am (Kd.R_mono (Kd.R_keep (Kd.R_types HO.out BK_g8.out (by decide)) hk (fun _ h_ => h_.2)) (fun _ h_ => h_.1)); replace HB := sb5 HB GE_g8 hw; (try clear c_g2); replace BK_g2 := bk BK_g2 hk NE_g2_g8; have c_g2 := cf2 BK_g2; (try clear c_g3); replace BK_g3 := bk BK_g3 hk NE_g3_g8; have c_g3 := cf3 BK_g3; (try clear c_g4); replace BK_g4 := bk BK_g4 hk NE_g4_g8; have c_g4 := cf2 BK_g4; (try clear c_g8); replace BK_g8 := bp5 BK_g8 hw; have c_g8 := cf5 BK_g8; clear hk hw; (try clear q0); have q0 := pw_cell_below HB.out Q0.out; (try clear s0 s1); obtain ⟨s0, s1⟩ := stk_at2 HO.out m (by omega) _ _ HXM.out))
      go_quiet (fail)
      generalize hWD : W5.drewN nq = W6
      have hb : Below W5.heap.size W5 W6 := by rw [← hWD]; exact pw_below_drewN (Below.refl _ _) nq
      clear hWD
      replace HB := bs HB hb
      (try clear c_g2)
      replace BK_g2 := bb BK_g2 hb
      have c_g2 := cf2 BK_g2
      (try clear c_g3)
      replace BK_g3 := bb BK_g3 hb
      have c_g3 := cf3 BK_g3
      (try clear c_g4)
      replace BK_g4 := bb BK_g4 hb
      have c_g4 := cf2 BK_g4
      (try clear c_g8)
      replace BK_g8 := bb BK_g8 hb
      have c_g8 := cf5 BK_g8
      replace HO := bR HO hb
      (try clear q0)
      have q0 := pw_cell_below HB.out Q0.out
      (try clear s0 s1)
      obtain ⟨s0, s1⟩ := stk_at2 HO.out m (by omega) _ _ HXM.out
      clear hb
      go_wp2
      go_roundw
      case rel => exact ⟨k + 1, d', _, by first | rfl | go_num | (congr 1; omega), by omega, ⟨by have := HDK.out; omega⟩, ⟨HE.out.symm⟩, HO, ⟨by have := HX.out; omega⟩, HB, BK_g2, BK_g3, BK_g4⟩
      case measure => exact mu_ hlt (by omega)
     have HE := am (HT.out.trans (by rw [s_jtake HI.out hj hm hnj HXM.out (by rw [eN, e26]; simp)]))
     go_wp2_with (first | ((with_reducible refine gate_dst (N := 8) rfl ?_); refine box_event ?hg (N := 8) ?hd (cs := #[.int .i64 0, .int .i64 0, .int .i64 0, .int .i64 0, .int .i64 0]) (t := 47) ?hr ?_; (case hd => rfl); (case hg => rfl); (case hr => first | (go_simp; done) | (go_simp; rfl)); intro g8 hg_ W4 hbox hb; have GE_g8 := ge1 hg_ HB; have NE_g8_g2 := ne1 hg_ BK_g2; have NE_g2_g8 := ne2 NE_g8_g2; have NE_g8_g3 := ne1 hg_ BK_g3; have NE_g3_g8 := ne2 NE_g8_g3; have NE_g8_g4 := ne1 hg_ BK_g4; have NE_g4_g8 := ne2 NE_g8_g4; replace HB := bs HB hb; (try clear c_g2); replace BK_g2 := bb BK_g2 hb; have c_g2 := cf2 BK_g2; (try clear c_g3); replace BK_g3 := bb BK_g3 hb; have c_g3 := cf3 BK_g3; (try clear c_g4); replace BK_g4 := bb BK_g4 hb; have c_g4 := cf2 BK_g4; replace HO := bR HO hb; have BK_g8 := am hbox; have c_g8 := cf5 BK_g8; clear hb hbox hg_; (try clear q0); have q0 := pw_cell_below HB.out Q0.out; (try clear s0 s1); obtain ⟨s0, s1⟩ := stk_at2 HO.out m (by omega) _ _ HXM.out) | ((with_reducible refine gate_store (t := 47) (p := 8) rfl ?_); refine store_event (t := 47) (p := 8) (v := ?vo_W5_47) (w1 := ?w1_W5_48) ?hg ?ho ?hn ?hr ?_; (case ho => rfl); (case hg => rfl); (case hn => rfl); (case hr => first | (go_simp; done) | (go_simp; rfl)); intro W5 hw; have hk := kb5 hw; replace HO := am (Kd.R_mono (Kd.R_keep (Kd.R_types HO.out BK_g8.out (by decide)) hk (fun _ h_ => h_.2)) (fun _ h_ => h_.1)); replace HB := sb5 HB GE_g8 hw; (try clear c_g2); replace BK_g2 := bk BK_g2 hk NE_g2_g8; have c_g2 := cf2 BK_g2; (try clear c_g3); replace BK_g3 := bk BK_g3 hk NE_g3_g8; have c_g3 := cf3 BK_g3; (try clear c_g4); replace BK_g4 := bk BK_g4 hk NE_g4_g8; have c_g4 := cf2 BK_g4; (try clear c_g8); replace BK_g8 := bp5 BK_g8 hw; have c_g8 := cf5 BK_g8; clear hk hw; (try clear q0); have q0 := pw_cell_below HB.out Q0.out; (try clear s0 s1); obtain ⟨s0, s1⟩ := stk_at2 HO.out m (by omega) _ _ HXM.out))
     go_quiet (fail)
     generalize hWD : W5.drewN nq = W6
     have hb : Below W5.heap.size W5 W6 := by rw [← hWD]; exact pw_below_drewN (Below.refl _ _) nq
     clear hWD
     replace HB := bs HB hb
     (try clear c_g2)
     replace BK_g2 := bb BK_g2 hb
     have c_g2 := cf2 BK_g2
     (try clear c_g3)
     replace BK_g3 := bb BK_g3 hb
     have c_g3 := cf3 BK_g3
     (try clear c_g4)
     replace BK_g4 := bb BK_g4 hb
     have c_g4 := cf2 BK_g4
     (try clear c_g8)
     replace BK_g8 := bb BK_g8 hb
     have c_g8 := cf5 BK_g8
     replace HO := bR HO hb
     (try clear q0)
     have q0 := pw_cell_below HB.out Q0.out
     (try clear s0 s1)
     obtain ⟨s0, s1⟩ := stk_at2 HO.out m (by omega) _ _ HXM.out
     clear hb
     go_wp2
     go_roundw
     case rel => exact ⟨i4.toNat, d', _, by first | rfl | go_num | (congr 1; omega), by omega, ⟨by have := HDK.out; omega⟩, ⟨HE.out.symm⟩, HO, ⟨by have := HX.out; omega⟩, HB, BK_g2, BK_g3, BK_g4⟩
     case measure => exact mu_ hlt (by omega)
  as_aux_lemma =>
   have eD : decide ((k : Int) < (code.length : Int)) = false := by simp; omega
   have HE := am (HR.out.symm.trans (runR_end hlt))
   by_cases hl : xs.length = 1
   ·obtain ⟨gs, cap, rfl⟩ := stk_form HO.out 0 hl
    obtain ⟨⟨b, n⟩, hx_⟩ : ∃ q, xs.getD 0 z50 = q := ⟨_, rfl⟩
    obtain ⟨s0, s1⟩ := stk_at2 HO.out 0 (by omega) b n hx_
    simp only [Nat.zero_mul, Nat.zero_add] at s0 s1
    have HF := am (show runV code cols L each at_ = ((b, n), 0) from by rw [HE.out, endV, if_pos hl, topV, hl, hx_])
    clear hx_ HE
    have HE := HF
    go_wp2
    try rw [Exit.noGoto_ret]
    refine bodyPost_ret (v := .tuple #[.agg #[.bool b, .int .i64 n], .int .i64 0]) (by simp [results, Tryd.results10, go_sem, *]) rfl ⟨by rw [HE.out], ?_⟩
    exact below_set (below_set HB.out GE_g4.out) GE_g4.out
   obtain ⟨AS, cs_, rfl⟩ := Kd.R_slice HO.out
   have eL : ((xs.length : Int) != 1) = true := by simp; omega
   have HF := am (show runV code cols L each at_ = ((false, 0), 70) from by rw [HE.out, endV, if_neg hl])
   clear HE
   have HE := HF
   go_wp2
   try rw [Exit.noGoto_ret]
   refine bodyPost_ret (v := .tuple #[.agg #[.bool false, .int .i64 0], .int .i64 70]) (by simp [results, Tryd.results10, go_sem, *]) rfl ⟨by rw [HE.out], ?_⟩
   exact below_set (below_set HB.out GE_g4.out) GE_g4.out
end Go.Proofs.YtbhpjpeknooppaaDoor.M
